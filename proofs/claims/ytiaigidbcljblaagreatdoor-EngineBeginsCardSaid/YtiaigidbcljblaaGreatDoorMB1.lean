import Derived.Test.YtiaigidbcljblaaGreatDoorRows
import Derived.WalkKit
import Derived.WalkSpells
import Derived.WalkLawsBesides
import Derived.Lib.Hide
import Derived.Maps.AppendAt
import Derived.OwnWalk
import Derived.Deep.MidRow
import Derived.Deep.RegionHeld3
import Derived.Laws.Slices
import Derived.Deep.QuietTactic
import Derived.Laws.Cover3
import Derived.Laws.Bits64b
import Derived.Laws.IdiomCopy
import Derived.Laws.ResultCell
import Derived.Maps.OwnSet
import Derived.Great.BuildSlice
set_option linter.unusedSimpArgs false
set_option maxRecDepth 100000
set_option maxHeartbeats 40000000
namespace Go.Proofs.YtiaigidbcljblaaGreatDoor
open Go.Proofs.Tryz
section
open Go.RowKit
def Sl(w:World)(v:Value)(xs:List Value):Prop:=
 ∃(A:Option Addr) (cap:Nat),v = .slice A xs.length cap/\xs.length<=cap/\(0<xs.length->∃ b off,A=some ⟨b,off,none⟩/\∀ j u,xs[j]? = some u->w.cell? ⟨b,off+j,none⟩=some u)
theorem dV{w:World}{a:Addr}{v:Value}(h:w.cell? a=some v):a.block<w.heap.size:=World.block_lt_of_cell? w a h
theorem Below.cell'{w w':World}(h:Below w.heap.size w w'){a:Addr}{v:Value}(j:w.cell? a=some v):w'.cell? a=some v:=by
 rw[h.cell (dV j)];exact j
theorem bY{B:Nat}{a w:World}(h:Below B a w)(n:Nat):Below B a (w.drewN n):=⟨h.os,h.tape,h.output,h.size,h.block⟩
theorem aA{a b c:World}(h:Below a.heap.size a b)(k:Below b.heap.size b c):Below a.heap.size a c:=h.trans (k.mono h.size)
theorem V7{a b:World}(h:Below a.heap.size a b)(o:Obj):Below a.heap.size a (b.alloc o):=h.alloc h.size o
theorem Sl.keep{w w':World}{v:Value}{x:List Value}(h:Sl w v x)(J:∀ a u,w.cell? a=some u->w'.cell? a=some u):Sl w' v x:=by
 obtain⟨A,cap,rfl,D,O⟩:=h;refine⟨A,cap,rfl,D,λK=>?_⟩;obtain⟨b,off,rfl,h⟩:=O K;exact⟨b,off,rfl,λj u I=>J _ _ (h j u I)⟩
theorem Sl.below{w w':World}{v:Value}{j:List Value}(h:Sl w v j)(hb:Below w.heap.size w w'):Sl w' v j:=
 h.keep λ_ _ x=>Below.cell' hb x
theorem Sl.alloc{w:World}{v:Value}{j:List Value}(h:Sl w v j)(o:Obj):Sl (w.alloc o) v j:=
 h.below ((Below.refl _ _).alloc (Nat.le_refl _) o)
theorem Sl.drew{w:World}{v:Value}{j:List Value}(h:Sl w v j):Sl w.drew v j:=h
theorem Sl.drewN{w:World}{v:Value}{j:List Value}(h:Sl w v j)(n:Nat):Sl (w.drewN n) v j:=h
theorem Sl.nil(w:World)(A:Option Addr)(cap:Nat):Sl w (.slice A 0 cap) []:=⟨A,cap,rfl,Nat.zero_le _,λh=>absurd h (by simp)⟩
theorem V8{a b:ByteArray}(h:a=b):(a.toList == b.toList)=true:=by subst h;simp
theorem V9{a b:ByteArray}(h:a≠b):(a.toList == b.toList)=false:=by
 rw[beq_eq_false_iff_ne,ByteArray.toList_eq,ByteArray.toList_eq];exact λe=>h (ByteArray.ext (Array.toList_inj.1 e))
theorem R7(a b:ByteArray):(a.toList == b.toList)=decide (a=b):=by
 by_cases h:a=b
 ·rw[V8 h];simp[h]
 ·rw[V9 h];simp[h]
def lN(l:List Int):List Value:=l.map (Value.int .i64)
def Sn(w:World)(s:Nat)(v:Value)(n:Nat)(xs:List Value):Prop:=
 ∃(A:Option Addr) (cap:Nat),v = .slice A n cap/\n<=cap/\xs.length=n*s/\(0<n->∃ b off,A=some ⟨b,off,none⟩/\∀ j u,xs[j]? = some u->w.cell? ⟨b,off+j,none⟩=some u)
theorem Sn.keep{w w':World}{s n:Nat}{v:Value}{x:List Value}(h:Sn w s v n x)(J:∀ a u,w.cell? a=some u->w'.cell? a=some u):Sn w' s v n x:=by
 obtain⟨A,cap,rfl,D,K,R⟩:=h;refine⟨A,cap,rfl,D,K,λO=>?_⟩;obtain⟨b,off,rfl,h⟩:=R O;exact⟨b,off,rfl,λj u I=>J _ _ (h j u I)⟩
theorem Sn.below{w w':World}{s n:Nat}{v:Value}{j:List Value}(h:Sn w s v n j)(hb:Below w.heap.size w w'):Sn w' s v n j:=
 h.keep λ_ _ x=>Below.cell' hb x
theorem Sn.alloc{w:World}{s n:Nat}{v:Value}{j:List Value}(h:Sn w s v n j)(o:Obj):Sn (w.alloc o) s v n j:=
 h.below ((Below.refl _ _).alloc (Nat.le_refl _) o)
theorem Sn.sl{w:World}{n:Nat}{v:Value}{j:List Value}(h:Sn w 1 v n j):Sl w v j:=by
 obtain⟨A,cap,rfl,x,I,D⟩:=h;have:j.length=n:=by omega
 subst this;exact⟨A,cap,rfl,x,D⟩
theorem Sl.sn{w:World}{v:Value}{j:List Value}(h:Sl w v j):Sn w 1 v j.length j:=by
 obtain⟨A,cap,rfl,x,D⟩:=h;exact⟨A,cap,rfl,x,by omega,D⟩
theorem Sn.own{w:World}{base e s n:Nat}{v:Value}{K:List Value}(h:w.ownsRow base e s v n K):Sn w s v n K:=by
 obtain⟨J,h|⟨g,cap,D,rfl,hb,hg,R,U,O,I⟩⟩:=h
 ·obtain⟨rfl,rfl⟩:=h;exact⟨none,0,rfl,Nat.le_refl _,J,λh=>absurd h (by omega)⟩
 ·refine⟨_,cap,rfl,R,J,λV=>⟨g,0,rfl,λj u x=>?_⟩⟩;rw[cell_of_row w g (0+j) D e (0,0) hg,Nat.zero_add];rw[<- I,List.getElem?_take] at x;split at x
  ·simpa using x
  ·cases x
theorem Sn.new(w:World)(cs:Array Value)(t:TypeId)(s n:Nat)(hs:cs.size=n*s):Sn (w.alloc (.cells cs t)) s (.slice (some ⟨w.heap.size,0,none⟩) n n) n cs.toList:=by
 refine⟨_,n,rfl,Nat.le_refl _,by simpa using hs,λ_=>⟨w.heap.size,0,rfl,λj u x=>?_⟩⟩;rw[cell_of_row _ w.heap.size (0+j) cs t (0,0) (heap_alloc_new w _),Nat.zero_add];simpa using x
theorem Sn.newAt(w:World)(cs:Array Value)(t:TypeId)(s n g:Nat)(hs:cs.size=n*s)(hg:w.heap.size=g):Sn (w.alloc (.cells cs t)) s (.slice (some ⟨g,0,none⟩) n n) n cs.toList:=by
 subst hg;exact Sn.new w cs t s n hs
theorem tF(w:World)(cs:Array Value)(e s cap base g:Nat)(hb:base<=w.heap.size)(hs:cs.size=cap*s)(j:cap<=maxLen)(hg:w.heap.size=g):(w.alloc (.cells cs e)).ownsRow base e s (.slice (some ⟨g,0,none⟩) 0 cap) 0 []:=by
 subst hg;exact World.ownsRow_made w cs cap hb j hs
theorem aJ{w w':World}{base e s n:Nat}{v:Value}{D:List Value}(h:w.ownsRow base e s v n D)(hb:Below w.heap.size w w'):w'.ownsRow base e s v n D:=by
 refine⟨h.1,?_⟩;have x:=h.lt;rcases h.2 with I|⟨g,cap,j,rfl,hg,J,r⟩
 ·exact .inl I
 ·exact .inr ⟨g,cap,j,rfl,hg,by rw[hb.block g (x g rfl).2];exact J,r⟩
theorem bE{w:World}{base base' e s n:Nat}{v:Value}{x:List Value}(h:w.ownsRow base e s v n x)(hb:base'<=base):w.ownsRow base' e s v n x:=by
 refine⟨h.1,?_⟩;rcases h.2 with D|⟨g,cap,j,rfl,hg,r⟩
 ·exact .inl D
 ·exact .inr ⟨g,cap,j,rfl,Nat.le_trans hb hg,r⟩
structure SlT(P:Program)(t e s bytes:Nat):Prop where
 ht:P.underlying t=some (.slice e)
 hi:∃ i z,P.info? e=some i/\i.zero=some z/\i.size=s/\i.bytes=bytes/\z.cells.size=s
 hs:0<s
theorem SlT.mk'{P:Program}{t e s bytes:Nat}{z:Value}(ht:P.underlying t=some (.slice e))(h:(P.info? e).map (λi=>(i.zero,i.size,i.bytes))=some (some z,s,bytes))(I:z.cells.size=s)(hs:0<s):SlT P t e s bytes:=by
 obtain⟨i,h1,j,x,D⟩:=info_parts h;exact⟨ht,⟨i,z,h1,j,x,D,I⟩,hs⟩
section
variable {P : Program} {w : World}
theorem sV{t ty e s bytes:Nat}(T:SlT P t e s bytes){base n:Nat}{v:Value}{O:List Value}(j:w.ownsRow base e s v n O)(c:Nat):
  (Builtin.append_ #[t,t] ty #[v,.slice none 0 c]).run P w = .ok v w:=by
 obtain⟨i,z,hi,R,J,I,K⟩:=T.hi;rcases j.2 with ⟨rfl,rfl⟩|⟨g,cap,D,rfl,_,_,x,_⟩
 ·simp[Builtin.append_,run_underlying T.ht,sizeOf,typeInfo,hi,Builtin.lenOf,Builtin.firstCells]
 ·simp[Builtin.append_,run_underlying T.ht,sizeOf,typeInfo,hi,Builtin.lenOf,Builtin.firstCells,x,storeCells]
theorem sW{t ty e s bytes:Nat}(T:SlT P t e s bytes){base n:Nat}{v:Value}{O:List Value}(j:w.ownsRow base e s v n O)(a:Addr)(c:Nat):
  (Builtin.append_ #[t,t] ty #[v,.slice (some a) 0 c]).run P w = .ok v w:=by
 obtain⟨i,z,hi,R,J,I,K⟩:=T.hi;rcases j.2 with ⟨rfl,rfl⟩|⟨g,cap,D,rfl,_,_,x,_⟩
 ·simp[Builtin.append_,run_underlying T.ht,sizeOf,typeInfo,hi,Builtin.lenOf,Builtin.firstCells,loadCells,loadCellsFrom]
 ·simp[Builtin.append_,run_underlying T.ht,sizeOf,typeInfo,hi,Builtin.lenOf,Builtin.firstCells,x,storeCells,loadCells,loadCellsFrom]
theorem iE{t ty e s bytes:Nat}(T:SlT P t e s bytes){base n m:Nat}{v x:Value}{xs D:List Value}(I:w.ownsRow base e s v n xs)(hx:Sn w s x m D)
  (h1:∀ u∈D,u.oneCell'=true) (R:n+m<=maxLen) (J:(n+m)*bytes<=140737488355328) (K:base<=w.heap.size):
  ∃ v' w',(Builtin.append_ #[t,t] ty #[v,x]).run P w = .ok v' w'/\w'.ownsRow base e s v' (n+m) (xs++D)/\w.grownBy w' v.ownBlock/\(v'.ownBlock=v.ownBlock\/v'.ownBlock=some w.heap.size):=by
 obtain⟨A,c,rfl,a0,hl,O⟩:=hx;rcases Nat.eq_zero_or_pos m with rfl|hm
 ·have hn:D=[]:=List.eq_nil_of_length_eq_zero (by simpa using hl);subst hn;refine⟨v,w,?_,by simpa using I,World.grownBy.refl w _,.inl rfl⟩;cases A with
  | none=>exact sV T I c
  | some a=>exact sW T I a c
 ·obtain⟨b,off,rfl,hc⟩:=O hm;obtain⟨i,z,hi,hz,V,U,Z⟩:=T.hi;obtain⟨v',w',h2,h3,h4,_,h5⟩:=run_append_own_at (P:=P) w base t ty e i z s bytes T.ht hi hz V U Z T.hs v n xs I ⟨b,off,none⟩ m c D hl (λj u hj=>by
   have:=hc j u hj
   rw[Addr.add_lit];exact this) h1 R J K
  exact⟨v',w',h2,h3,h4,h5⟩
theorem app{ops:Array Oper}{rest:List Oper}{o:Oper}{a:Act}{Q:Exit->Act->World->Prop}{t e s bytes:Nat}(T:SlT P t e s bytes)(p q:Operand)
  (ho:o.op = .call { callee:=.builtin .append,args:=#[p,q],argTypes:=#[t,t] }) (hw:Region.wanted o (yielded ops a.tmps)=true)
  {base n m:Nat} {v x:Value} {U j:List Value} (hv:a.eval p=v) (J:w.ownsRow base e s v n U) (R:a.eval q=x) (hx:Sn w s x m j)
  (h1:∀ u∈j,u.oneCell'=true) (O:n+m<=maxLen) (D:(n+m)*bytes<=140737488355328) (I:base<=w.heap.size)
  (h:∀ v' w',w'.ownsRow base e s v' (n+m) (U++j)->w.grownBy w' v.ownBlock->(v'.ownBlock=v.ownBlock\/v'.ownBlock=some w.heap.size)->wpList P ops Q rest (a.put o.dst v') w'):
  wpList P ops Q (o :: rest) a w:=by
 refine wpList_step λK hK=>?_
 rw[if_pos hw];obtain⟨v',w',hrun,V,Z,h4⟩:=iE (ty:=o.type) T J hx h1 O D I;unfold Oper.wp execOp;simp only[ho,resolve,invoke,builtin,Sem.run_bind,Sem.run_pure,Result.andThen_ok,List.map_toArray,List.map_cons,List.map_nil,hv,R,hrun];exact hK _ _ (h v' w' V Z h4)
end
end
section
open Go.RowKit
section
variable {P : Program}
theorem pM(w:World)(old cells:Array Value)(t:TypeId):(w.alloc (.cells old t)).setRow w.heap.size cells=w.alloc (.cells cells t):=by
 simp only[World.setRow,World.alloc];congr 1;apply Array.ext
 ·simp
 ·intro i h1 j;simp only[Array.getElem_modify];split
  ·subst_vars;simp
  ·rw[Array.getElem_push,Array.getElem_push];have:i<w.heap.size:=by simp at j;omega
   simp[this]
theorem ld{ops:Array Oper}{rest:List Oper}{o:Oper}{a:Act}{w:World}{Q:Exit->Act->World->Prop}(ty:TypeId)(x:Operand)(I:o.op = .load ty x)(O:Region.wanted o (yielded ops a.tmps)=true)
  {b off:Nat} (R:a.eval x = .pointer (some ⟨b,off,none⟩)) {cs:List Value} {d:TypeDesc} (D:w.rangeAt b off cs)
  (J:P.underlying ty=some d) (hd:d.isRow=true) (hi:(P.info? ty).map (·.size)=some cs.length)
  (h:wpList P ops Q rest (a.put o.dst (.agg cs.toArray)) w):wpList P ops Q (o :: rest) a w:=
 wpList_step λK j=>by
  rw[if_pos O];exact wp_load_mid ty x I b off R cs d D J hd hi (j _ _ h)
theorem bZ{ops:Array Oper}{rest:List Oper}{o:Oper}{a:Act}{w:World}{Q:Exit->Act->World->Prop}(ty:TypeId)(x y:Operand)(I:o.op = .store ty x y)(J:Region.wanted o (yielded ops a.tmps)=true)
  {old cells:Array Value} {t:TypeId} (O:a.eval x = .pointer (some ⟨w.heap.size,0,none⟩)) (hy:a.eval y = .agg cells)
  (hi:(P.info? ty).map (·.size)=some cells.size) (j:old.size=cells.size) (h1:cells.all (·.oneCell')=true)
  (h:∀ w2,w2.heap[w.heap.size]? = some (.cells cells t (0,0))->Below w.heap.size w w2->w2.heap.size=w.heap.size+1->wpList P ops Q rest (a.put o.dst undef) w2):
  wpList P ops Q (o :: rest) a (w.alloc (.cells old t)):=
 wpList_step λK D=>by
  rw[if_pos J];refine wp_store_row ty x y I w.heap.size cells O hy t old (heap_alloc_new w _) hi j h1 ?_;rw[pM];exact D _ _ (h _ (heap_alloc_new w _) ((Below.refl _ _).alloc (Nat.le_refl _) _) (by simp))
end
theorem Sn.range{w:World}{s n cap:Nat}{A:Option Addr}{K:List Value}(h:Sn w s (.slice A n cap) n K)(k:Nat)(V:k<n):
  ∃ b off,A=some ⟨b,off,none⟩/\w.rangeAt b (off+k*s) ((K.drop (k*s)).take s):=by
 obtain⟨R,J,hv,U,Z,O⟩:=h;injection hv with hA _ _
 subst hA;obtain⟨b,off,rfl,x⟩:=O (by omega);refine⟨b,off,rfl,λj u D=>?_⟩;have I:j<s:=by have:=(List.getElem?_eq_some_iff.1 D).1;simp at this;omega
 rw[List.getElem?_take,if_pos I,List.getElem?_drop] at D;have:=x _ _ D;rw[show off+k*s+j=off+(k*s+j) from by omega];exact this
theorem lH{α:Type}(f:α->List Value)(s:Nat):∀(l:List α),(∀ x∈l,(f x).length=s)->∀ k (hk:k<l.length),((l.flatMap f).drop (k*s)).take s=f l[k]
 | [],_,k,hk=>by simp at hk
 | x :: l,h,0,_=>by
  have j:=h x (by simp);simp only[List.flatMap_cons,Nat.zero_mul,List.drop_zero,List.getElem_cons_zero];rw[List.take_append_of_le_length (by omega),List.take_of_length_le (by omega)]
 | x :: l,h,k+1,hk=>by
  have j:=h x (by simp);simp only[List.flatMap_cons,List.getElem_cons_succ];rw[Nat.add_mul,Nat.one_mul,List.drop_append,List.drop_eq_nil_of_le (by omega),List.nil_append,j,Nat.add_sub_cancel];exact lH f s l (λy hy=>h y (by simp[hy])) k (by simpa using hk)
end
section
open Go.RowKit
section
variable {P : Program} {ops : Array Oper} {Q : Exit -> Act -> World -> Prop} {S : World -> Prop} {a : Act} {w : World} {listed : Array Bool} {fuel : Nat}
theorem bP(n:Nat)(S:World->Prop){D:Nat}(j:P.follows .mixedOrders=true)(x:ops.size=n)(hS:S w.drew)
  (h:S w.drew->wpAnyH P .any ops Q S n (Array.replicate n false) a w.drew):(Code.region D ops true).wp P Q a w:=by
 subst x;exact wp_region_held_drew j hS h
theorem IU(i:Nat)(x:Op)(dst:Option Tmp)(v:Value)(hd:(ops[i]?).map (λo=>(o.op,o.dst))=some (x,dst))(j:(ops[i]?).map (λo=>Region.wanted o (yielded ops a.tmps))=some true)
  (hs:Region.noSelect ops=true) (J:Region.free .any ops listed i=true) (K:(Region.ready .any ops listed).contains i=true)
  (I:∀ c a w,Q (.panic c) (a.put dst v) w->Q (.panic c) a w) (hy:∀ o:Oper,o.op=x->∀ w,S w->(execOp a.eval o).run P w = .ok (.value v) w) (hS:S w)
  (h:wpAnyH P .any ops Q S fuel (listed.setIfInBounds i true) (a.put dst v) w):wpAnyH P .any ops Q S (fuel+1) listed a w:=by
 cases ho:ops[i]? with
 | none=>rw[ho] at hd;cases hd
 | some o=>
  rw[ho] at hd j;simp only[Option.map_some,Option.some.injEq,Prod.mk.injEq] at hd j;obtain⟨h1,D⟩:=hd;subst D;exact wpAnyH_take ho hs J K I (.inl ⟨j,hy o h1⟩) hS h
theorem X3(i:Nat)(dst:Option Tmp)(hd:(ops[i]?).map (·.dst)=some dst)(j:(ops[i]?).map (λo=>Region.wanted o (yielded ops a.tmps))=some false)
  (hs:Region.noSelect ops=true) (D:Region.free .any ops listed i=true) (I:(Region.ready .any ops listed).contains i=true)
  (x:∀ c a w,Q (.panic c) (a.put dst undef) w->Q (.panic c) a w) (hS:S w)
  (h:wpAnyH P .any ops Q S fuel (listed.setIfInBounds i true) (a.put dst undef) w):wpAnyH P .any ops Q S (fuel+1) listed a w:=by
 cases ho:ops[i]? with
 | none=>rw[ho] at hd;cases hd
 | some o=>
  rw[ho] at hd j;simp only[Option.map_some,Option.some.injEq] at hd j;subst hd;exact wpAnyH_take ho hs D I x (.inr ⟨j,rfl⟩) hS h
theorem X4(i:Nat)(ty:TypeId)(x:Operand)(dst:Option Tmp){b off:Nat}{cs:List Value}{d:TypeDesc}(hd:(ops[i]?).map (λo=>(o.op,o.dst))=some (.load ty x,dst))(D:(ops[i]?).map (λo=>Region.wanted o (yielded ops a.tmps))=some true)
  (hs:Region.noSelect ops=true) (K:Region.free .any ops listed i=true) (R:(Region.ready .any ops listed).contains i=true)
  (I:∀ c a w,Q (.panic c) (a.put dst (.agg cs.toArray)) w->Q (.panic c) a w) (V:a.eval x = .pointer (some ⟨b,off,none⟩)) (J:∀ w,S w->w.rangeAt b off cs) (U:P.underlying ty=some d) (j:d.isRow=true) (hi:(P.info? ty).map (·.size)=some cs.length) (hS:S w)
  (h:wpAnyH P .any ops Q S fuel (listed.setIfInBounds i true) (a.put dst (.agg cs.toArray)) w):wpAnyH P .any ops Q S (fuel+1) listed a w:=
 IU i _ dst _ hd D hs K R I (λo O w D=>by
  unfold execOp
  simp only[O,V,Instr.loadAt,Instr.sureAddr,Sem.run_bind,Sem.run_pure,Result.andThen_ok,run_loadVar_mid w b off ty cs d (J w D) U j hi]) hS h
theorem X5(i:Nat)(x:Operand)(dst:Option Tmp)(v:Value)(hd:(ops[i]?).map (λo=>(o.op,o.dst))=some (.move x,dst))(K:(ops[i]?).map (λo=>Region.wanted o (yielded ops a.tmps))=some true)
  (hs:Region.noSelect ops=true) (D:Region.free .any ops listed i=true) (J:(Region.ready .any ops listed).contains i=true)
  (j:∀ c a w,Q (.panic c) (a.put dst v) w->Q (.panic c) a w) (O:a.eval x=v) (hS:S w)
  (h:wpAnyH P .any ops Q S fuel (listed.setIfInBounds i true) (a.put dst v) w):wpAnyH P .any ops Q S (fuel+1) listed a w:=
 IU i _ dst _ hd K hs D J j (λo I w _=>by
  unfold execOp
  simp only[I,O,Sem.run_pure]) hS h
theorem BU{D:List Nat}(i:Nat)(x:Op)(dst:Option Tmp)(v:Value)(w2:World)(hd:(ops[i]?).map (λo=>(o.op,o.dst))=some (x,dst))(j:(ops[i]?).map (λo=>Region.wanted o (yielded ops a.tmps))=some true)
  (hrun:∀ o:Oper,o.op=x->(execOp a.eval o).run P w = .ok (.value v) w2) (hS:S w2)
  (h:wpAnyH P .any ops Q S fuel (listed.setIfInBounds i true) (a.put dst v) w2) (hs:AllReadyH P .any ops Q S fuel listed a w D):AllReadyH P .any ops Q S fuel listed a w (i :: D):=by
 cases ho:ops[i]? with
 | none=>rw[ho] at hd;cases hd
 | some o=>
  rw[ho] at hd j;simp only[Option.map_some,Option.some.injEq,Prod.mk.injEq] at hd j;obtain⟨I,J⟩:=hd;subst J;refine AllReadyH.cons ho (λK O=>?_) hs;rw[if_pos j];unfold Oper.wp;rw[hrun o I,Oper.upon_value];exact O _ _ hS (λ_=>h)
theorem R8{D:List Nat}(i:Nat)(ty:TypeId)(x y:Operand)(dst:Option Tmp){b off:Nat}{cs:List Value}(hd:(ops[i]?).map (λo=>(o.op,o.dst))=some (.store ty x y,dst))(j:(ops[i]?).map (λo=>Region.wanted o (yielded ops a.tmps))=some true)
  (R:a.eval x = .pointer (some ⟨b,off,none⟩)) (hy:a.eval y = .agg cs.toArray) (ht:w.there b off cs.length) (hi:(P.info? ty).map (·.size)=some cs.length) (h1:∀ u∈cs,u.oneCell'=true) (hS:S (w.setCells b off cs))
  (h:wpAnyH P .any ops Q S fuel (listed.setIfInBounds i true) (a.put dst undef) (w.setCells b off cs)) (hs:AllReadyH P .any ops Q S fuel listed a w D):AllReadyH P .any ops Q S fuel listed a w (i :: D):=by
 cases ho:ops[i]? with
 | none=>rw[ho] at hd;cases hd
 | some o=>
  rw[ho] at hd j;simp only[Option.map_some,Option.some.injEq,Prod.mk.injEq] at hd j;obtain⟨I,J⟩:=hd;subst J;refine AllReadyH.cons ho (λK O=>?_) hs;rw[if_pos j];refine wp_store_mid ty x y I b off cs.toArray R hy (by simpa using ht) (by simpa using hi) (all_oneCell_toArray h1) ?_;rw[List.toList_toArray];exact O _ _ hS (λ_=>h)
theorem X6{D:List Nat}(i:Nat)(x:Op)(dst:Option Tmp)(f:FuncId)(args:Array Value)(hd:(ops[i]?).map (λo=>(o.op,o.dst))=some (x,dst))(j:(ops[i]?).map (λo=>Region.wanted o (yielded ops a.tmps))=some true)
  (hent:∀ o:Oper,o.op=x->(execOp a.eval o).run P w = .ok (.enter f args) w)
  (h:Calls P f args w λe w'=>∃ v,e = .returned v/\S w'/\(S w'->wpAnyH P .any ops Q S fuel (listed.setIfInBounds i true) (a.put dst v) w')) (hs:AllReadyH P .any ops Q S fuel listed a w D):AllReadyH P .any ops Q S fuel listed a w (i :: D):=by
 cases ho:ops[i]? with
 | none=>rw[ho] at hd;cases hd
 | some o=>
  rw[ho] at hd j;simp only[Option.map_some,Option.some.injEq,Prod.mk.injEq] at hd j;obtain⟨I,J⟩:=hd;subst J;refine AllReadyH.cons ho (λK O=>?_) hs;rw[if_pos j];unfold Oper.wp;rw[hent o I,Oper.upon_enter];refine h.mono ?_;rintro e w' ⟨v,rfl,hS,R⟩;exact O _ _ hS R
end
section
variable {P : Program} {ops : Array Oper} {Q : Exit -> Act -> World -> Prop} {S : World -> Prop} {a : Act} {w : World} {listed : Array Bool} {fuel : Nat}
theorem jT (i : Nat) (j : Op) (dst : Option Tmp) (v : Value) (hS : S w) (h : wpAnyH P .any ops Q S fuel (listed.setIfInBounds i true) (a.put dst v) w)
    (hd : (ops[i]?).map (λo => (o.op, o.dst)) = some (j, dst) := by kernel_rfl) (K : (ops[i]?).map (λo => Region.wanted o (yielded ops a.tmps)) = some true := by kernel_rfl)
    (hs : Region.noSelect ops = true := by kernel_rfl) (D : Region.free .any ops listed i = true := by kernel_rfl) (J : (Region.ready .any ops listed).contains i = true := by kernel_rfl)
    (x : ∀ c a w, Q (.panic c) (a.put dst v) w -> Q (.panic c) a w := by exact λ_ _ _ h => h)
    (hy : ∀ o : Oper, o.op = j -> ∀ w, S w -> (execOp a.eval o).run P w = .ok (.value v) w := by exact λo I R O => by unfold execOp; simp only [I]; go_simp) :
    wpAnyH P .any ops Q S (fuel + 1) listed a w := IU i j dst v hd K hs D J x hy hS h
theorem jK (i : Nat) (dst : Option Tmp) (hS : S w) (h : wpAnyH P .any ops Q S fuel (listed.setIfInBounds i true) (a.put dst undef) w)
    (hd : (ops[i]?).map (·.dst) = some dst := by kernel_rfl) (I : (ops[i]?).map (λo => Region.wanted o (yielded ops a.tmps)) = some false := by kernel_rfl)
    (hs : Region.noSelect ops = true := by kernel_rfl) (x : Region.free .any ops listed i = true := by kernel_rfl) (D : (Region.ready .any ops listed).contains i = true := by kernel_rfl)
    (j : ∀ c a w, Q (.panic c) (a.put dst undef) w -> Q (.panic c) a w := by exact λ_ _ _ h => h) :
    wpAnyH P .any ops Q S (fuel + 1) listed a w := X3 i dst hd I hs x D j hS h
theorem jM (i : Nat) (x : Operand) (dst : Option Tmp) (v : Value) (hS : S w) (h : wpAnyH P .any ops Q S fuel (listed.setIfInBounds i true) (a.put dst v) w)
    (hd : (ops[i]?).map (λo => (o.op, o.dst)) = some (.move x, dst) := by kernel_rfl) (J : (ops[i]?).map (λo => Region.wanted o (yielded ops a.tmps)) = some true := by kernel_rfl)
    (hs : Region.noSelect ops = true := by kernel_rfl) (D : Region.free .any ops listed i = true := by kernel_rfl) (I : (Region.ready .any ops listed).contains i = true := by kernel_rfl)
    (j : ∀ c a w, Q (.panic c) (a.put dst v) w -> Q (.panic c) a w := by exact λ_ _ _ h => h) (K : a.eval x = v := by exact rfl) :
    wpAnyH P .any ops Q S (fuel + 1) listed a w := X5 i x dst v hd J hs D I j K hS h
theorem jL (i : Nat) (ty : TypeId) (x : Operand) (dst : Option Tmp) {b off : Nat} {cs : List Value} {d : TypeDesc} (I : ∀ w, S w -> w.rangeAt b off cs) (O : P.underlying ty = some d) (j : d.isRow = true) (hi : (P.info? ty).map (·.size) = some cs.length) (hS : S w)
    (h : wpAnyH P .any ops Q S fuel (listed.setIfInBounds i true) (a.put dst (.agg cs.toArray)) w)
    (hd : (ops[i]?).map (λo => (o.op, o.dst)) = some (.load ty x, dst) := by kernel_rfl) (R : (ops[i]?).map (λo => Region.wanted o (yielded ops a.tmps)) = some true := by kernel_rfl)
    (hs : Region.noSelect ops = true := by kernel_rfl) (J : Region.free .any ops listed i = true := by kernel_rfl) (K : (Region.ready .any ops listed).contains i = true := by kernel_rfl)
    (D : ∀ c a w, Q (.panic c) (a.put dst (.agg cs.toArray)) w -> Q (.panic c) a w := by exact λ_ _ _ h => h) (U : a.eval x = .pointer (some ⟨b, off, none⟩) := by exact rfl) :
    wpAnyH P .any ops Q S (fuel + 1) listed a w := X4 i ty x dst hd R hs J K D U I O j hi hS h
theorem jW (x : List Nat) (h : AllReadyH P .any ops Q S fuel listed a w x) (D : Region.ready .any ops listed = x := by kernel_rfl) (j : x ≠ [] := by simp) : wpAnyH P .any ops Q S (fuel + 1) listed a w := wpAnyH_ready D j h
theorem jN : AllReadyH P .any ops Q S fuel listed a w [] := AllReadyH.nil
theorem jS {x : List Nat} (i : Nat) (j : Op) (dst : Option Tmp) (v : Value) (w2 : World) (hS : S w2)
    (h : wpAnyH P .any ops Q S fuel (listed.setIfInBounds i true) (a.put dst v) w2) (hs : AllReadyH P .any ops Q S fuel listed a w x)
    (hd : (ops[i]?).map (λo => (o.op, o.dst)) = some (j, dst) := by kernel_rfl) (I : (ops[i]?).map (λo => Region.wanted o (yielded ops a.tmps)) = some true := by kernel_rfl)
    (hrun : ∀ o : Oper, o.op = j -> (execOp a.eval o).run P w = .ok (.value v) w2 := by exact λo D => by unfold execOp; simp only [D]; go_simp) :
    AllReadyH P .any ops Q S fuel listed a w (i :: x) := BU i j dst v w2 hd I hrun hS h hs
theorem jC {x : List Nat} (i : Nat) (j : Op) (dst : Option Tmp) (f : FuncId) (args : Array Value)
    (h : Calls P f args w λe w' => ∃ v, e = .returned v /\ S w' /\ (S w' -> wpAnyH P .any ops Q S fuel (listed.setIfInBounds i true) (a.put dst v) w')) (hs : AllReadyH P .any ops Q S fuel listed a w x)
    (hd : (ops[i]?).map (λo => (o.op, o.dst)) = some (j, dst) := by kernel_rfl) (I : (ops[i]?).map (λo => Region.wanted o (yielded ops a.tmps)) = some true := by kernel_rfl)
    (hent : ∀ o : Oper, o.op = j -> (execOp a.eval o).run P w = .ok (.enter f args) w := by exact λo D => by unfold execOp; simp only [D]; go_simp) :
    AllReadyH P .any ops Q S fuel listed a w (i :: x) := X6 i j dst f args hd I hent h hs
theorem jR {j : List Nat} (i : Nat) (ty : TypeId) (x y : Operand) (dst : Option Tmp) {b off : Nat} {cs : List Value}
    (ht : w.there b off cs.length) (hi : (P.info? ty).map (·.size) = some cs.length) (h1 : ∀ u ∈ cs, u.oneCell' = true) (hS : S (w.setCells b off cs))
    (h : wpAnyH P .any ops Q S fuel (listed.setIfInBounds i true) (a.put dst undef) (w.setCells b off cs)) (hs : AllReadyH P .any ops Q S fuel listed a w j)
    (hd : (ops[i]?).map (λo => (o.op, o.dst)) = some (.store ty x y, dst) := by kernel_rfl) (D : (ops[i]?).map (λo => Region.wanted o (yielded ops a.tmps)) = some true := by kernel_rfl)
    (I : a.eval x = .pointer (some ⟨b, off, none⟩) := by exact rfl) (hy : a.eval y = .agg cs.toArray := by exact rfl) :
    AllReadyH P .any ops Q S fuel listed a w (i :: j) := R8 i ty x y dst hd D I hy ht hi h1 hS h hs
end
theorem j1 (a : Act) (d : Tmp) (v : Value) : a.put (some d) v = ⟨a.tmps.setIfInBounds d v, a.defers⟩ := rfl
theorem j2 (a : Act) (v : Value) : a.put none v = a := rfl
theorem j3 {α : Type} (l : List α) (i : Nat) (a : α) : l.toArray.setIfInBounds i a = (l.set i a).toArray := List.setIfInBounds_toArray l i a
theorem j4 {α : Type} {x : α} {xs : List α} {a : α} : (x :: xs).set 0 a = a :: xs := rfl
theorem j5 {α : Type} {x : α} {xs : List α} {i : Nat} {a : α} : (x :: xs).set (i + 1) a = x :: xs.set i a := rfl
theorem jq : (∀ (a : Act) (d : Tmp) (v : Value), a.put (some d) v = ⟨a.tmps.setIfInBounds d v, a.defers⟩) /\ (∀ (a : Act) (v : Value), a.put none v = a) /\ (∀ {α : Type} (l : List α) (i : Nat) (a : α), l.toArray.setIfInBounds i a = (l.set i a).toArray) /\ (∀ {α : Type} {x : α} {xs : List α} {a : α}, (x :: xs).set 0 a = a :: xs) /\ (∀ {α : Type} {x : α} {xs : List α} {i : Nat} {a : α}, (x :: xs).set (i + 1) a = x :: xs.set i a) := ⟨j1, j2, j3, @j4, @j5⟩
theorem je.{u} {α : Sort u} (a : α) : ∃ b, b = a := ⟨a, rfl⟩
theorem jb (b : Bool) : b = true \/ b = false := Bool.eq_false_or_eq_true b
theorem jt {α : Type} (l : List α) : l.toArray.toList = l := List.toList_toArray
theorem js {α : Type} (l : List α) : l.toArray.size = l.length := List.size_toArray
theorem jz {p : Prop} (h : p) : RowKit.Hid p := Lib.hid h
theorem ja (n : Nat) : n <= n := Nat.le_refl n
theorem jf {α : Type} {j : List α} {i : Nat} : j.toArray[i]? = j[i]? := List.getElem?_toArray
theorem jg {α : Type} {a : α} {l : List α} : (a :: l)[0]? = some a := rfl
theorem jh {α : Type} {a : α} {i : Nat} {l : List α} : (a :: l)[i + 1]? = l[i]? := rfl
theorem ji (B : Nat) (w : World) : Below B w w := Below.refl B w
theorem jj {α : Type} {j bs : List α} : (j ++ bs).length = j.length + bs.length := List.length_append
theorem jk {α : Type} {j : Array α} : j.toList.length = j.size := Array.length_toList
theorem jl {α : Type} {b : α} {l : List α} {a : α} : a ∈ b :: l ↔ a = b \/ a ∈ l := List.mem_cons
theorem jm {n m k : Nat} (h : n <= m) (g : m <= k) : n <= k := Nat.le_trans h g
theorem jn {α : Type} {l : List α} {i : Nat} {a : α} : l.getD i a = l[i]?.getD a := List.getD_eq_getElem?_getD
theorem jo (n m : Nat) : n < m \/ n >= m := Nat.lt_or_ge n m
theorem jp {n m k : Nat} (h : n < m) (g : m <= k) : n < k := Nat.lt_of_lt_of_le h g
theorem ju {α : Type} {a : α} {s t : List α} : a ∈ s ++ t ↔ a ∈ s \/ a ∈ t := List.mem_append
theorem jv {α : Type} {i : Nat} {l : List α} : (List.take i l).length = min i l.length := List.length_take
theorem jx {α : Type} {s t : List α} {i : Nat} (h : s.length <= i) : (s ++ t)[i]? = t[i - s.length]? := List.getElem?_append_right h
theorem jy {α : Type} {s t : List α} {i : Nat} (h : i < s.length) : (s ++ t)[i]? = s[i]? := List.getElem?_append_left h
theorem j6 {α : Type} {i : Nat} {l : List α} (h : i < l.length) : List.take (i + 1) l = List.take i l ++ [l[i]] := List.take_succ_eq_append_getElem h
theorem j7 {α : Type} {i : Nat} {a : α} {l : List α} (h : a ∈ List.take i l) : a ∈ l := List.mem_of_mem_take h
theorem j8 {α : Type} {a : α} : ¬a ∈ ([] : List α) := List.not_mem_nil
theorem j9 {w w' : World} (h : Below w.heap.size w w') {a : Addr} {v : Value} (k : w.cell? a = some v) : w'.cell? a = some v := Below.cell' h k
theorem j0 (n : Nat) : 0 <= n := Nat.zero_le n
theorem jP.{u} {c : Prop} {h : Decidable c} (hc : c) {α : Sort u} {t e : α} : ite c t e = t := if_pos hc
theorem jQ.{u} {c : Prop} {h : Decidable c} (hc : ¬c) {α : Sort u} {t e : α} : ite c t e = e := if_neg hc
abbrev Wd : Type := World
abbrev Wl : Type := List Int
abbrev Wv : Type := List Value
abbrev Wa : Type := Array Value
abbrev Wc := Calls prog
abbrev Bw (w W : World) : Prop := Below w.heap.size w W
abbrev Rt (w : World) (v : Value) (e : Ending) (W : World) : Prop := e = .returned v /\ Below w.heap.size w W
end
section
open Go.RowKit
def Blk(w:World)(g:Nat)(t:TypeId)(cs:Array Value):Prop:=w.heap[g]? = some (.cells cs t (0,0))
section
variable {w w' : World} {g : Nat} {t : TypeId} {cs : Array Value}
theorem Blk.lt(h:Blk w g t cs):g<w.heap.size:=by
 rcases jo g w.heap.size with x|j
 ·exact x
 ·unfold Blk at h;rw[Array.getElem?_eq_none j] at h;cases h
theorem Blk.cell(h:Blk w g t cs)(i:Nat):w.cell? ⟨g,i,none⟩=cs[i]?:=cell_of_row w g i cs t (0,0) h
theorem Blk.frozen(h:Blk w g t cs)(i:Nat):w.frozen? ⟨g,i,none⟩=false:=by
 unfold Blk at h;simp[World.frozen?,h]
theorem Blk.new(w:World)(t:TypeId)(cs:Array Value):Blk (w.alloc (.cells cs t)) w.heap.size t cs:=heap_alloc_new w _
theorem Blk.newAt(w:World)(t:TypeId)(cs:Array Value)(g:Nat)(hg:w.heap.size=g):Blk (w.alloc (.cells cs t)) g t cs:=by subst hg;exact heap_alloc_new w _
theorem Blk.drewN(h:Blk w g t cs)(n:Nat):Blk (w.drewN n) g t cs:=h
theorem Blk.alloc(h:Blk w g t cs)(o:Obj):Blk (w.alloc o) g t cs:=(Below.heap_alloc w o g h.lt).trans h
theorem Blk.set_(h:Blk w g t cs)(i:Nat)(u:Value):Blk (w.setCell ⟨g,i,none⟩ u) g t (cs.setIfInBounds i u):=by
 unfold Blk at h ⊢;simp[World.setCell,Array.getElem?_modify,h]
theorem Blk.far(h:Blk w g t cs){p:Addr}(j:g≠p.block)(u:Value):Blk (w.setCell p u) g t cs:=(Below.heap_setCell w p u g j).trans h
theorem Blk.below{B:Nat}(h:Blk w g t cs)(hb:Below B w w')(hg:g<B):Blk w' g t cs:=(hb.block g hg).trans h
theorem Blk.keep(h:Blk w g t cs)(hb:Below w.heap.size w w'):Blk w' g t cs:=h.below hb h.lt
theorem Blk.range(h:Blk w g t cs):w.rangeAt g 0 cs.toList:=λj u x=>by
 rw[Nat.zero_add,h.cell j];simpa using x
end
theorem aO{P:Program}{ops:Array Oper}{rest:List Oper}{o:Oper}{a:Act}{w:World}{Q:Exit->Act->World->Prop}(ty:TypeId)(x y:Operand)(O:o.op = .store ty x y)(R:Region.wanted o (yielded ops a.tmps)=true)
  {g t:Nat} {old cells:Array Value} (U:a.eval x = .pointer (some ⟨g,0,none⟩)) (hy:a.eval y = .agg cells) (I:Blk w g t old)
  (hi:(P.info? ty).map (·.size)=some cells.size) (D:old.size=cells.size) (h1:cells.all (·.oneCell')=true)
  (h:∀ w2,Blk w2 g t cells->Below g w w2->(∀ j,j≠g->w2.heap[j]? = w.heap[j]?)->w2.heap.size=w.heap.size->wpList P ops Q rest (a.put o.dst undef) w2):
  wpList P ops Q (o :: rest) a w:=
 wpList_step λK J=>by
  rw[jP R];refine wp_store_row ty x y O g cells U hy t old I hi D h1 ?_;refine J _ _ (h _ (setRow_heap w g old cells t (0,0) I) ⟨rfl,rfl,rfl,by simp,λk V=>setRow_other w g k cells (by omega)⟩ (λj hg=>setRow_other w g j cells hg) (by simp))
structure Off(b:Nat)(w w':World):Prop where
 os:w'.os=w.os
 tape:w'.tape=w.tape
 output:w'.output=w.output
 size:w.heap.size<=w'.heap.size
 block:∀ k,k<w.heap.size->k≠b->w'.heap[k]? = w.heap[k]?
theorem Off.of_below{b:Nat}{w w':World}(h:Below w.heap.size w w'):Off b w w':=⟨h.os,h.tape,h.output,h.size,λk j _=>h.block k j⟩
theorem Off.refl(b:Nat)(w:World):Off b w w:=⟨rfl,rfl,rfl,ja _,λ_ _ _=>rfl⟩
theorem Off.trans{b:Nat}{x y z:World}(h:Off b x y)(k:Off b y z):Off b x z:=
 ⟨k.os.trans h.os,k.tape.trans h.tape,k.output.trans h.output,jm h.size k.size,λi hi j=>(k.block i (jp hi h.size) j).trans (h.block i hi j)⟩
theorem Off.of_grown{b:Nat}{w w':World}(h:w.grownBy w' (some b)):Off b w w':=⟨h.os,h.tape,h.output,h.size,λk x j=>h.block k x (λe=>j (Option.some.inj e))⟩
theorem Off.cell{b:Nat}{w w':World}(h:Off b w w'){a:Addr}{v:Value}(j:w.cell? a=some v)(x:a.block≠b):w'.cell? a=some v:=by
 have:=h.block a.block (dV j) x;unfold World.cell? at j ⊢;rw[this];exact j
theorem Off.below{b B:Nat}{w w':World}(h:Off b w w')(j:B<=b)(hs:B<=w.heap.size):Below B w w':=⟨h.os,h.tape,h.output,h.size,λk x=>h.block k (by omega) (by omega)⟩
theorem Off.blk{b:Nat}{w w':World}(h:Off b w w'){g:Nat}{t:TypeId}{cs:Array Value}(x:Blk w g t cs)(j:g≠b):Blk w' g t cs:=(h.block g x.lt j).trans x
theorem Off.set{b:Nat}{w w':World}(h:Off b w w')(i:Nat)(u:Value):Off b w (w'.setCell ⟨b,i,none⟩ u):=
 ⟨h.os,h.tape,h.output,by simpa using h.size,λk x j=>(Below.heap_setCell w' ⟨b,i,none⟩ u k j).trans (h.block k x j)⟩
theorem Off.drew{b:Nat}{w w':World}(h:Off b w w'):Off b w w'.drew:=⟨h.os,h.tape,h.output,h.size,h.block⟩
theorem Off.drewN{b:Nat}{w w':World}(h:Off b w w')(n:Nat):Off b w (w'.drewN n):=⟨h.os,h.tape,h.output,h.size,h.block⟩
end
section
open Go.RowKit
def u8s(l:List Int):List Value:=l.map (Value.int .u8)
structure DigOk(d:List Int):Prop where
 len:d.length=32
 byte:∀ b∈d,0<=b/\b<=255
def aD(n:Int):Prop:=-9223372036854775808<=n/\n<=9223372036854775807
theorem lO{n:Int}(h:(Lit.int .i64 n).wf=true):aD n:=by
 simp[Lit.wf,IntKind.min,IntKind.max,IntKind.signed,IntKind.bits] at h;unfold aD;omega
theorem tX{n:Int}(h:aD n):(Lit.int .i64 n).wf=true:=by
 unfold aD at h;simp[Lit.wf,IntKind.min,IntKind.max,IntKind.signed,IntKind.bits];omega
def cR(d:List Int)(t:Int):List Value:=u8s d++[.int .i64 t]
theorem k8{d:List Int}(h:DigOk d)(t:Int):(cR d t).length=33:=by simp[cR,u8s,h.len]
theorem iI(d:List Int)(t:Int):(cR d t).toArray.all (·.oneCell')=true:=by
 refine all_oneCell_toArray λv j=>?_
 simp[cR,u8s] at j;rcases j with ⟨_,_,rfl⟩|rfl <;> rfl
theorem dI(d:List Int):(u8s d).toArray.all (·.oneCell')=true:=by
 refine all_oneCell_toArray λv j=>?_
 simp[u8s] at j;obtain⟨_,_,rfl⟩:=j;rfl
def aN(p:List Int×Int):List Value:=cR p.1 p.2
structure EntOk(p:List Int×Int):Prop where
 dig:DigOk p.1
 exp:aD p.2
theorem aZ(p:List Int×Int)(h:EntOk p):(aN p).length=33:=k8 h.dig _
def Bys(l:List Int):Prop:=∀ b∈l,0<=b/\b<=255
theorem aI(l:List Int):(u8s l).length=l.length:=by simp[u8s]
theorem bR(l:List Int):∀ u∈u8s l,u.oneCell'=true:=λu j=>by
 simp only[u8s,List.mem_map] at j;obtain⟨_,_,rfl⟩:=j;rfl
theorem fK(a b:List Int):u8s (a++b)=u8s a++u8s b:=by simp[u8s]
theorem mV(a:List Int)(k:Nat):u8s (a.take k)=(u8s a).take k:=by simp[u8s,List.map_take]
theorem pN(a:List Int)(k:Nat):u8s (a.drop k)=(u8s a).drop k:=by simp[u8s,List.map_drop]
theorem nW(a:List Int)(k:Nat)(h:k<a.length):(u8s a)[k]? = some (.int .u8 a[k]):=by simp[u8s,h]
theorem Sn.sliced{w:World}{s n:Nat}{A:Option Addr}{cap:Nat}{J:List Value}(h:Sn w s (.slice A n cap) n J)(i j m:Nat)(R:i<=j)(U:j<=n)(hm:j<=m):Sn w s (sliced A i j m s) (j-i) ((J.take (j*s)).drop (i*s)):=by
 obtain⟨A',K,hv,O,hl,Z⟩:=h;injection hv with hA _ _
 subst hA;have V:j*s<=n*s:=Nat.mul_le_mul_right s U;have D:((J.take (j*s)).drop (i*s)).length=(j-i)*s:=by rw[List.length_drop,jv,Nat.sub_mul];omega
 unfold Go.sliced;refine⟨_,_,rfl,by omega,D,λhp=>?_⟩;obtain⟨b,off,rfl,x⟩:=Z (by omega);rw[jQ (by omega)];refine⟨b,off+i*s,by simp[Addr.add_mid],λk u I=>?_⟩;rw[List.getElem?_drop,List.getElem?_take] at I;split at I
 ·have:=x _ _ I;rw[<- Nat.add_assoc] at this;exact this
 ·cases I
theorem tY:SlT prog 68 5 1 1:=SlT.mk' underlying68 (z:=.int .u8 0) (by kernel_rfl) rfl (by decide)
def RD(w:World)(r:Nat)(v:Value)(xs:List Int)(bad:Bool):Prop:=Blk w r 345 #[v,.bool bad]/\Sn w 1 v xs.length (u8s xs)
theorem mW(U:Value)(n:Nat)(K:List Value)(w:World)(hs:Sn w 1 U n K)(h1:∀ u∈K,u.oneCell'=true)(hn:n<=1000000):
  Calls prog 215 #[U] w λe w'=>∃ v,e = .returned v/\Sn w' 1 v n K/\Below w.heap.size w w':=by
 obtain⟨A,cap,rfl,O,hl,R⟩:=id hs;have V:=jz hs;have Z:=jz R;clear R;cases A with
 | none=>
  have I:∀ w:World,(binOp .eql 68 (.slice none n cap) (.slice none 0 0)).run prog w = .ok (.bool true) w:=λ_=>rfl
  go_enter func215,ntmps215
  go_wp2_with fail
  go_ret;have J:n=0:=by
   rcases Nat.eq_zero_or_pos n with h|h
   ·exact h
   ·obtain⟨b,off,e,_⟩:=Z.out h;cases e
  subst J;exact⟨_,rfl,⟨none,0,rfl,ja _,hl,λh=>absurd h (by omega)⟩,ji _ _⟩
 | some a=>
  have I:∀ w:World,(binOp .eql 68 (.slice (some a) n cap) (.slice none 0 0)).run prog w = .ok (.bool false) w:=λ_=>rfl
  have j:(w.alloc (.cells #[] 5)).ownsRow w.heap.size 5 1 (.slice (some ⟨w.heap.size,0,none⟩) 0 0) 0 []:=tF w #[] 5 1 0 w.heap.size w.heap.size (ja _) rfl (by unfold maxLen;omega) rfl;go_enter func215,ntmps215
  clear hs;go_wp2_with (at_builtin;refine app tY (.tmp 5) (.tmp 6) rfl rfl rfl j rfl (V.alloc _) h1 (by unfold maxLen;omega) (by omega) (by simp) ?_;intro v' w3 D x _)
  go_ret;have hb:Below w.heap.size w w3:=((ji _ w).alloc (ja _) _).grown x (by simp) (λg hg=>by have:=(j.lt g hg).1;omega);have:=Sn.own D;rw[Nat.zero_add,List.nil_append] at this;exact⟨_,rfl,this,hb⟩
theorem BV(K:Value)(x:List Int)(w:World)(hs:Sn w 1 K x.length (u8s x))(U:x.length<=1000000):
  Calls prog 157 #[K] w λe w'=>∃ r v,e = .returned (.pointer (some ⟨r,0,none⟩))/\RD w' r v x false/\w.heap.size<=r/\Below w.heap.size w w':=by
 have R:=jz hs;clear hs;go_enter func157,ntmps157
 go_wp2_with fail
 refine(mW K x.length (u8s x) w R (bR x) U).mono ?_;rintro e Z ⟨v,rfl,j,D⟩;obtain⟨A,cap,rfl,O,V,_⟩:=id j;have J:=jz j;have I:=D.size;clear j;go_wp2_with fail
 go_ret;exact⟨_,_,rfl,⟨Blk.new _ _ _,J.alloc _⟩,I,D.alloc I _⟩
theorem RD.ne{w:World}{r:Nat}{I:List Int}{bad:Bool}{v:Value}(x:Blk w r 345 #[v,.bool bad]){A:Option Addr}{cap:Nat}(D:v = .slice A I.length cap){b i:Nat}{k:Int}(j:w.cell? ⟨b,i,none⟩=some (.int .u8 k)):b≠r:=by
 intro e;subst e D;rw[x.cell] at j
 match i with
 | 0=>simp at j
 | 1=>simp at j
 | i+2=>simp at j
theorem Sn.offB{w w':World}{r n:Nat}{v x:Value}{O:List Int}{bad:Bool}{A:Option Addr}{k cap:Nat}(h:Sn w 1 x n (u8s O))(U:Blk w r 345 #[v,.bool bad])(hv:v = .slice A k cap)(ho:Off r w w'):Sn w' 1 x n (u8s O):=by
 obtain⟨R,I,hx,V,Z,D⟩:=h;refine⟨R,I,hx,V,Z,λhp=>?_⟩;obtain⟨b,off,rfl,K⟩:=D hp;refine⟨b,off,rfl,λj u J=>ho.cell (K j u J) λe=>?_⟩;have hcj:=K j u J;have e:b=r:=e;subst e hv;rw[U.cell] at hcj;have hu:∃ k:Int,u = .int .u8 k:=by
  have:=List.mem_of_getElem? J;simp only[u8s,List.mem_map] at this;obtain⟨k,_,rfl⟩:=this;exact⟨k,rfl⟩
 obtain⟨k',rfl⟩:=hu;generalize off+j=i at hcj
 match i with
 | 0=>simp at hcj
 | 1=>simp at hcj
 | i+2=>simp at hcj
theorem tG(r:Nat)(v:Value)(bad:Bool)(w:World)(j:Blk w r 345 #[v,.bool bad]):
  Calls prog 278 #[.pointer (some ⟨r,0,none⟩)] w λe w'=>e = .returned (.tuple #[])/\RD w' r (.slice none 0 0) [] true/\Off r w w':=by
 have I:=j.cell 0;have h1:=j.cell 1;have O:=j.frozen 0;have R:=j.frozen 1;simp only[jf,jg,jh] at I h1;have x:=(j.set_ 1 (.bool true)).set_ 0 (.slice none 0 0);have D:=jz x;have J:(w.setCell ⟨r,1,none⟩ (.bool true)).cell? ⟨r,0,none⟩=some v:=by rw[(j.set_ 1 (.bool true)).cell];rfl
 have K:=(j.set_ 1 (.bool true)).frozen 0;clear j x;go_enter func278,ntmps278
 go_wp2_with fail
 go_end0
 exact⟨rfl,⟨D,⟨none,0,rfl,ja _,rfl,λh=>absurd h (by simp)⟩⟩,((Off.refl r w).set 1 _).set 0 _⟩
theorem IV(r:Nat)(v:Value)(j:List Int)(bad:Bool)(n:Nat)(w:World)(h:RD w r v j bad)(hl:j.length<=1000000):
    Calls prog 217 #[.pointer (some ⟨r,0,none⟩),.int .u64 n] w λe w'=>Off r w w' /\
      ((bad = false /\ n <= j.length /\ ∃ x v', e = .returned (.tuple #[x, .bool true]) /\ Sn w' 1 x n (u8s (j.take n)) /\ RD w' r v' (j.drop n) false) \/
       ((bad=true\/j.length<n)/\e = .returned (.tuple #[.slice none 0 0,.bool false])/\RD w' r (.slice none 0 0) [] true)):=by
  obtain⟨O,hs⟩:=h;obtain⟨A,cap,rfl,U,a6,_⟩:=id hs;have HS:=jz hs;have K:=jz O;have h0:=O.cell 0;have h1:=O.cell 1;have f0:=O.frozen 0;simp only[jf,jg,jh] at h0 h1;have I:bad=true\/bad=false/\decide (j.length<n)=true\/bad=false/\decide (j.length<n)=false:=by
    cases bad <;> cases decide (j.length<n) <;> simp
  clear O hs;rcases I with rfl|⟨rfl,t1⟩|⟨rfl,t1⟩
  · go_enter func217,ntmps217
    go_wp2_with fail
    refine(tG r _ true w K).mono ?_;rintro e w1 ⟨rfl,hR,J⟩;go_wp2_with fail
    go_ret2
    exact⟨J,.inr ⟨.inl trivial,rfl,hR⟩⟩
  · go_enter func217,ntmps217
    go_wp2_with fail
    refine(tG r _ false w K).mono ?_;rintro e w1 ⟨rfl,hR,J⟩;go_wp2_with fail
    go_ret2
    exact⟨J,.inr ⟨.inr (by have:=of_decide_eq_true t1;omega),rfl,hR⟩⟩
  · have hn:n<=j.length:=by have:=of_decide_eq_false t1;omega
    have a4:(n:Int)<=cap:=by omega
    have a5:(n:Int)<=j.length:=by omega
    have a3:(0:Int)<=n:=by omega
    have a7:=underlying68;go_enter func217,ntmps217
    have a0:Hid (Sn w 1 (sliced A 0 n n 1) n (u8s (j.take n))):=jz (by
      have:=HS.sliced 0 n n (by omega) hn (ja _)
      rw[mV]
      simpa using this)
    have a1:Hid (Sn w 1 (sliced A n j.length cap 1) (j.drop n).length (u8s (j.drop n))):=jz (by
      have:=HS.sliced n j.length cap hn (ja _) U
      rw[pN,List.length_drop]
      have e:(u8s j).take (j.length*1)=u8s j:=List.take_of_length_le (by rw[aI];omega)
      rw[e] at this
      simpa using this)
    have a2:=jz (K.set_ 0 (sliced A n j.length cap 1));have J:Off r w (w.setCell ⟨r,0,none⟩ (sliced A n j.length cap 1)):=(Off.refl r w).set 0 _;have Z:=jz J;clear J;by_cases hcn:cap=n
    all_goals
      go_wp2_with fail
      go_ret2
      have D:=a0.offB K rfl Z.out;have V:=a1.offB K rfl Z.out;have e2:sliced A 0 n n 1 = .slice A n n:=by
        unfold Go.sliced;cases A with
        | none=>simp
        | some a=>obtain⟨b,o,s⟩:=a;simp[Addr.add]
      have R:=a2.out;rw[e2] at D;refine⟨?_,.inl ⟨trivial,hn,_,sliced A n j.length cap 1,rfl,?_,?_⟩⟩
    · have e3:sliced A n j.length cap 1 = .slice A (j.length-n) 0:=by simp[Go.sliced,hcn]
      rw[<- e3];exact Z.out
    · have e3:sliced A n j.length cap 1 = .slice A (j.length-n) 0:=by simp[Go.sliced,hcn]
      rw[e3] at D;exact D
    · have e3:sliced A n j.length cap 1 = .slice A (j.length-n) 0:=by simp[Go.sliced,hcn]
      rw[<- e3];exact⟨R,V⟩
    · have e3:sliced A n j.length cap 1 = .slice (A.map (·.add n)) (j.length-n) (cap-n):=by simp[Go.sliced,hcn]
      rw[<- e3];exact Z.out
    · have e3:sliced A n j.length cap 1 = .slice (A.map (·.add n)) (j.length-n) (cap-n):=by simp[Go.sliced,hcn]
      rw[e3] at D;exact D
    · have e3:sliced A n j.length cap 1 = .slice (A.map (·.add n)) (j.length-n) (cap-n):=by simp[Go.sliced,hcn]
      rw[<- e3];exact⟨R,V⟩
end
section
open Go.RowKit
attribute [local irreducible] wpQuiet wpAnyH
def beN(l:List Int):Nat:=l.foldl (λx c=>x*256+c.toNat) 0
theorem tZ(l:List Int)(k:Nat)(h:k<l.length):beN (l.take (k+1))=beN (l.take k)*256+l[k].toNat:=by
 unfold beN;rw[j6 h,List.foldl_append];rfl
theorem mX(l:List Int)(hb:Bys l):beN l<256 ^ l.length:=by
 have key:∀ k,k<=l.length->beN (l.take k)<256 ^ k:=by
  intro k;induction k with
  | zero=>intro _;simp[beN]
  | succ k ih=>
   intro I;have j:k<l.length:=by omega
   rw[tZ l k j,Nat.pow_succ];have h1:=ih (by omega);have x:=hb l[k] (List.getElem_mem j);have D:beN (l.take k)*256+256<=256 ^ k*256:=by
    have:=Nat.mul_le_mul_right 256 (show beN (l.take k)+1<=256 ^ k from h1);rw[Nat.add_mul] at this;omega
   omega
 have:=key l.length (ja _)
 rwa [List.take_length] at this
theorem IW(y c j:Nat)(D:j<=7)(hy:y<256 ^ j)(x:c<256):bits .or .u64 (IntKind.u64.wrap ((y:Int)*256)) (c:Int)=((y*256+c:Nat):Int):=by
 have J:(256:Nat) ^ j<=256 ^ 7:=Nat.pow_le_pow_right (by omega) D;have e7:(256:Nat) ^ 7=72057594037927936:=by decide
 have I:IntKind.u64.wrap ((y:Int)*256)=((y*256:Nat):Int):=by
  rw[IntWalk.u64_in _ (by omega)];simp
 rw[I,bits_or_u64_nat (y*256) c (by omega) (by omega)];have:=Nat.two_pow_add_eq_or_of_lt (i:=8) (b:=c) (by simpa using x) y;rw[show(2:Nat) ^ 8=256 from rfl] at this;rw[Nat.mul_comm y 256,<- this]
theorem KC(r:Nat)(v:Value)(J:List Int)(bad:Bool)(k:Nat)(w:World)(h:RD w r v J bad)(hb:Bys J)(hl:J.length<=1000000)(c5:1<=k)(c6:k<=8):
    Calls prog 216 #[.pointer (some ⟨r,0,none⟩),.int .i64 k] w λe w'=>Off r w w' /\
      ((bad = false /\ k <= J.length /\ ∃ v', e = .returned (.tuple #[.int .u64 (beN (J.take k)), .bool true]) /\ RD w' r v' (J.drop k) false) \/
       ((bad=true\/J.length<k)/\e = .returned (.tuple #[.int .u64 0,.bool false])/\RD w' r (.slice none 0 0) [] true)):=by
  have HR:=jz h;clear h;have c2:(1:Int)<=k:=by omega
  have c4:(k:Int)<=8:=by omega
  go_enter func216,ntmps216
  go_wp2_with fail
  refine(IV r v J bad k w HR hl).mono ?_;rintro e w1 ⟨ho,⟨rfl,a8,x,v',rfl,O,hR⟩|⟨R,rfl,hR⟩⟩
  · obtain⟨A,cap,rfl,b1,_,_⟩:=id O;have Z:Bys (J.take k):=λb a6=>hb b (j7 a6)
    obtain⟨l,hL⟩:=je (J.take k);have a3:l.length=k:=by rw[hL,jv];omega
    rw[<- hL] at O Z;have HL:=jz hL;have a1:=jz Z;have a5:=jz O;have HO:=jz ho;have V:=jz hR;have U:=jz a3;clear hL O Z ho hR a8 a3 hb;go_wp2_with fail
    go_loopw [30,8] (λi x wr=>∃ j:Nat,j<=k/\i = .int .i64 j/\x = .int .u64 (beN (l.take j))/\wr=w1) (λi _ _=>k-(intOf i).toNat)
    case atStart=>exact⟨0,j0 _,rfl,rfl,rfl⟩
    case round=>
      obtain⟨j,hj,rfl,rfl,rfl⟩:=hrel;by_cases hlt:j<k
      · obtain⟨A',b0,hA,_,a9,D⟩:=a5.out;injection hA with hA _ _
        subst hA;obtain⟨b,off,rfl,hr⟩:=D (by omega);have a0:j<l.length:=by rw[U.out];exact hlt
        have hc:=hr j _ (nW l j a0);have a7:=a1.out l[j] (List.getElem_mem a0);obtain⟨c,a2⟩:∃ c:Nat,l[j]=c:=⟨l[j].toNat,by omega⟩;have K:=tZ l j a0;rw[a2] at hc K a7;have I:beN (l.take j)<256 ^ j:=by
          have:=mX (l.take j) (λb hb=>a1.out b (j7 hb))
          rwa [jv,Nat.min_eq_left (by omega)] at this
        obtain⟨y,hy⟩:=je (beN (l.take j));rw[<- hy] at K I;rw[<- hy];have a4:=jz K;have c7:bits .or .u64 (IntKind.u64.wrap ((y:Int)*256)) (c:Int)=((y*256+c:Nat):Int):=IW y c j (by omega) I (by omega);have b7:(0:Int)<=j:=by omega
        have c3:(j:Int)<k:=by omega
        clear hr D K hy a2 a9;go_wp2_with fail
        refine⟨⟨j+1,by omega,by go_num,?_,by trivial⟩,by simp[intOf];omega⟩;rw[a4.out];simp
      · obtain rfl:j=k:=by omega
        rw[List.take_of_length_le (by rw[U.out];omega)];go_wp2_with fail
        go_ret2
        refine⟨HO,.inl ⟨?_,?_,v',V⟩⟩
        · have:=U.out;rw[HL.out,jv] at this;omega
        · rw[HL.out];rfl
  · have HO:=jz ho;have V:=jz hR;have HB:=jz R;clear ho hR R;go_wp2_with fail
    go_ret2
    exact⟨HO,.inr ⟨HB,rfl,V⟩⟩
theorem gP(r:Nat)(v:Value)(x:List Int)(bad:Bool)(k:Nat)(w:World)(h:RD w r v x bad)(hb:Bys x)(hl:x.length<=1000000)(K:1<=k)(O:k<=8):
    Calls prog 159 #[.pointer (some ⟨r,0,none⟩),.int .i64 k] w λe w'=>Off r w w' /\
      ((bad = false /\ k <= x.length /\ ∃ v', e = .returned (.int .u64 (beN (x.take k))) /\ RD w' r v' (x.drop k) false) \/
       ((bad=true\/x.length<k)/\e = .returned (.int .u64 0)/\RD w' r (.slice none 0 0) [] true)):=by
  go_enter func159,ntmps159
  have Z:=jz h;clear h;go_wp2_with fail
  refine(KC r v x bad k w Z hb hl K O).mono ?_;rintro e w1 ⟨V,⟨j,R,v',rfl,J⟩|⟨j,rfl,J⟩⟩
  all_goals
    have U:=jz V;have I:=jz J;have D:=jz j;clear V J j;go_wp2_with fail
    go_ret
  · exact⟨U,.inl ⟨D,R,v',rfl,I⟩⟩
  · exact⟨U,.inr ⟨D,rfl,I⟩⟩
theorem IY(r:Nat)(v:Value)(I:List Int)(bad:Bool)(n:Nat)(w:World)(h:RD w r v I bad)(hl:I.length<=1000000)(hn:n<=1000000):
    Calls prog 223 #[.pointer (some ⟨r,0,none⟩),.int .i64 n] w λe w'=>Off r w w' /\
      ((bad = false /\ n <= I.length /\ ∃ x v', e = .returned x /\ Sn w' 1 x n (u8s (I.take n)) /\ RD w' r v' (I.drop n) false) \/
       ((bad=true\/I.length<n)/\e = .returned (.slice none 0 0)/\RD w' r (.slice none 0 0) [] true)):=by
  go_enter func223,ntmps223
  have HR:=jz h;have a2:(0:Int)<=n:=by omega
  have a3:(n:Int)<=1000000:=by omega
  clear h;go_wp2_with fail
  refine(IV r v I bad n w HR hl).mono ?_;rintro e w1 ⟨U,⟨rfl,O,x,v',rfl,R,K⟩|⟨D,rfl,K⟩⟩
  · have Z:=jz U;have j:=jz K;have a0:=jz R;have HK:=jz O;clear U K R O;go_wp2_with fail
    refine(mW x n (u8s (I.take n)) w1 a0 (bR _) hn).mono ?_;rintro e w2 ⟨y,rfl,a1,J⟩;go_wp2_with fail
    go_ret;exact⟨Z.trans (Off.of_below J),.inl ⟨HK,y,rfl,a1,v',⟨j.out.1.keep J,j.out.2.below J⟩⟩⟩
  · have Z:=jz U;have j:=jz K;have V:=jz D;clear U K D;go_wp2_with fail
    go_ret;exact⟨Z,.inr ⟨V,rfl,j⟩⟩
theorem IZ(r:Nat)(v:Value)(xs:List Int)(bad:Bool)(w:World)(h:RD w r v xs bad):
  Calls prog 161 #[.pointer (some ⟨r,0,none⟩)] w λe w'=>e = .returned (.bool (!bad && decide (xs.length=0)))/\w=w':=by
 obtain⟨j,hs⟩:=h;obtain⟨A,cap,rfl,x,_,_⟩:=id hs;have D:=j.cell 0;have h1:=j.cell 1;simp only[jf,jg,jh] at D h1;clear j hs;rcases jb bad with rfl|rfl
 ·go_enter func161,ntmps161
  go_wp2_with fail
  go_ret;exact⟨rfl,rfl⟩
 ·go_enter func161,ntmps161
  go_wp2_with fail
  go_ret;refine⟨?_,by trivial⟩;by_cases hx:xs=[]
  ·subst hx;rfl
  ·have:xs.length≠0:=λe=>hx (List.eq_nil_of_length_eq_zero e)
   simp[hx,this]
def beB:Nat->Nat->List Int
 | 0,_=>[]
 | m+1,x=>((x/256 ^ m % 256:Nat):Int) :: beB m x
theorem bQ:∀ k x,(beB k x).length=k
 | 0,_=>rfl
 | m+1,x=>by simp[beB,bQ m x]
theorem iZ:∀ k x,Bys (beB k x)
 | 0,_=>λb h=>by simp[beB] at h
 | m+1,x=>λb h=>by
  simp only[beB,jl] at h;rcases h with rfl|h
  ·omega
  ·exact iZ m x b h
def lI(k m x:Nat):List Value:=List.replicate (k-m) (Value.int .u8 0)++u8s (beB m x)
theorem BW(k m x:Nat)(h:m<k):(lI k m x).set (k-1-m) (Value.int .u8 ((x/256 ^ m % 256:Nat):Int))=lI k (m+1) x:=by
 unfold lI;rw[show k-m=(k-(m+1))+1 by omega,List.replicate_succ'];rw[List.append_assoc,List.set_append_right _ _ (by simp;omega)];rw[List.length_replicate,show k-1-m-(k-(m+1))=0 by omega];rfl
theorem oQ(z:Value)(n:Nat):(madeCells #[z] n).toList=List.replicate n z:=by
 rw[List.eq_replicate_iff];refine⟨by simp[madeCells],λb hb=>?_⟩;simp only[madeCells,Array.toList_map,Array.toList_range,List.mem_map] at hb;obtain⟨i,_,rfl⟩:=hb;simp[Nat.mod_one]
theorem qR{w:World}{base e n cap g:Nat}{O:List Value}(h:w.ownsRow base e 1 (.slice (some ⟨g,0,none⟩) n cap) n O){j:Nat}{u:Value}(x:O[j]? = some u):w.cell? ⟨g,j,none⟩=some u/\w.frozen? ⟨g,j,none⟩=false:=by
 obtain⟨V,h|⟨U,J,D,hv,_,R,_,_,_,I⟩⟩:=h
 ·cases h.1
 ·injection hv with hv1 _ hv2
  injection hv1 with hv1
  injection hv1 with hv1 _ _
  subst hv1;have K:Blk w g e D:=R;refine⟨?_,K.frozen j⟩;rw[K.cell];rw[<- I,List.getElem?_take] at x;split at x
  ·simpa using x
  ·cases x
theorem k9(k x:Nat)(w:World)(b7:1<=k)(a3:k<=8)(hx:x<256 ^ k):
  Calls prog 169 #[.int .i64 k,.int .u64 x] w λe w'=>∃ v,e = .returned (.tuple #[v,.bool true])/\w'.ownsRow w.heap.size 5 1 v k (u8s (beB k x))/\Below w.heap.size w w':=by
 have a9:(1:Int)<=k:=by omega
 have b1:(k:Int)<=8:=by omega
 have c2:x<18446744073709551616:=by
  have h1:(256:Nat) ^ k<=256 ^ 8:=Nat.pow_le_pow_right (by omega) a3;have e8:(256:Nat) ^ 8=18446744073709551616:=by decide
  omega
 obtain⟨i,hi,hz,a5,a2⟩:=info_parts (P:=prog) (e:=5) (z:=.int .u8 0) (size:=1) (bytes:=1) (by kernel_rfl);have HX:=jz hx;clear hx;have hsh:((x:Int)/2 ^ (8*k) != 0)=false:=by
  have e1:(256:Nat) ^ k=2 ^ (8*k):=by rw[Nat.pow_mul]
  have e2:((x:Int)/2 ^ (8*k))=((x/2 ^ (8*k):Nat):Int):=by simp
  rw[e2,Nat.div_eq_of_lt (by rw[<- e1];exact HX.out)];rfl
 have D:(madeCells (Value.int .u8 0).cells (k*1)).toList=lI k 0 x:=by
  show(madeCells #[Value.int .u8 0] (k*1)).toList=_;rw[oQ];simp[lI,beB,u8s]
 have Z:=jz D;clear D;have O:k<8\/k=8:=by omega
 rcases O with hk|hk
 all_goals
  first|(have a4:(k:Int)<8:=by omega)|(have a4:¬(k:Int)<8:=by omega)
  clear hk;go_enter func169,ntmps169
  go_wp2_with (at_make;refine wpList_make_full _ rfl (.tmp 23) (.tmp 23) 68 rfl w.heap.size 5 i (.int .u8 0) 1 underlying68 hi hz a5 .i64 .i64 (k:Int) (k:Int) k rfl rfl rfl rfl (by rw[a2];omega) (by unfold maxLen;omega) (ja _) ?_;intro w2 J hg)
  rw[Z.out] at J;have a1:Below w.heap.size w w2:=(ji _ w).grown hg (ja _) (λg e=>by cases e);clear hg hsh;go_loopw [7,1] (λi y wr=>∃ m:Nat,m<=k/\i = .int .i64 ((k:Int)-1-m)/\y = .int .u64 (x/256 ^ m)/\wr.ownsRow w.heap.size 5 1 (.slice (some ⟨w.heap.size,0,none⟩) k k) k (lI k m x)/\Below w.heap.size w wr) (λi _ _=>(intOf i+1).toNat)
  case atStart=>exact⟨0,j0 _,by simp,by simp,J,a1⟩
  case round=>
   obtain⟨m,hm,rfl,rfl,j,K⟩:=hrel;by_cases hlt:m<k
   ·have I:=j.stored (k-1-m) (.int .u8 ((x/256 ^ m % 256:Nat):Int));rw[BW k m x hlt] at I;have ec:((x/256 ^ m % 256:Nat):Int)=(x:Int)/256 ^ m % 256:=by simp
    rw[ec] at I;have U:(lI k m x)[k-1-m]? = some (.int .u8 0):=by
     unfold lI;rw[jy (by simp;omega)];rw[List.getElem?_replicate,jP (by omega)]
    obtain⟨a6,a7⟩:=qR j U;have a0:=jz I.1;have V:Hid (Below w.heap.size w (wr.setCell ⟨w.heap.size,k-1-m,none⟩ (.int .u8 ((x:Int)/256 ^ m % 256)))):=jz (K.grown I.2 K.size (λg e=>by cases e;exact ja _));have a8:(0:Int)<=(k:Int)-1-m:=by omega
    have b0:(k:Int)-1-m<k:=by omega
    clear I ec U;go_wp2_with fail
    refine⟨⟨m+1,by omega,by go_num,?_,a0,V⟩,by simp[intOf];omega⟩;have hp:(0:Int)<=256 ^ m:=Int.pow_nonneg (by omega);rw[Int.pow_succ,Int.ediv_ediv_of_nonneg hp]
   ·obtain rfl:m=k:=by omega
    have R:lI m m x=u8s (beB m x):=by simp[lI]
    rw[R] at j;go_wp2_with fail
    go_ret2
    exact⟨_,rfl,j,K⟩
end
section
open Go.RowKit
theorem mY(l:List Value):∀(k:Nat) (cs:Array Value) (i:Nat),((l.zipIdx k).foldl (fun(cs:Array Value) (x:Value×Nat)=>cs.setIfInBounds x.2 x.1) cs)[i]? = if k<=i/\i<k+l.length/\i<cs.size then l[i-k]? else cs[i]?:=by
 induction l with
 | nil=>intro k cs i;rw[jQ (by simp;omega)];rfl
 | cons v l ih=>
  intro k cs i;rw[List.zipIdx_cons,List.foldl_cons,ih];simp only[Array.size_setIfInBounds,List.length_cons];by_cases h1:k+1<=i/\i<k+1+l.length/\i<cs.size
  ·rw[jP h1,jP (by omega),show i-k=(i-(k+1))+1 by omega,jh]
  ·rw[jQ h1,Array.getElem?_setIfInBounds];by_cases h2:k=i
   ·subst h2;by_cases h3:k<cs.size
    ·rw[jP rfl,jP h3,jP (by omega)];simp
    ·rw[jP rfl,jQ h3,jQ (by omega)];simp[Array.getElem?_eq_none (Nat.le_of_not_lt h3)]
   ·rw[jQ h2,jQ (by omega)]
theorem l6:∀(l:List (Value×Nat)) (cs:Array Value),(l.foldl (fun(cs:Array Value) (x:Value×Nat)=>cs.setIfInBounds x.2 x.1) cs).size=cs.size:=by
 intro l;induction l with
 | nil=>intro cs;rfl
 | cons x l ih=>intro cs;rw[List.foldl_cons,ih,Array.size_setIfInBounds]
theorem dJ{b:Nat}{t:TypeId}:∀(vs:List Value) (o:Nat) (w:World) (cur:Array Value),Blk w b t cur->Blk (w.setCells b o vs) b t ((vs.zipIdx o).foldl (fun(cs:Array Value) (x:Value×Nat)=>cs.setIfInBounds x.2 x.1) cur)
 | [],_,_,_,h=>h
 | v :: r,o,w,cur,h=>by
  rw[World.setCells,List.zipIdx_cons,List.foldl_cons];exact dJ r (o+1) _ _ (h.set_ o v)
theorem aS{b B:Nat}(D:B<=b):∀(vs:List Value) (o:Nat) (w:World),Below B w (w.setCells b o vs)/\(w.setCells b o vs).heap.size=w.heap.size
 | [],_,w=>⟨ji _ _,rfl⟩
 | v :: r,o,w=>by
  rw[World.setCells];obtain⟨h1,x⟩:=aS D r (o+1) (w.setCell ⟨b,o,none⟩ v);have j:Below B w (w.setCell ⟨b,o,none⟩ v):=⟨rfl,rfl,rfl,by simp,λk I=>Below.heap_setCell w ⟨b,o,none⟩ v k (by show k≠b;omega)⟩;exact⟨j.trans h1,x.trans (by simp)⟩
theorem bB{b k:Nat}(j:k≠b):∀(vs:List Value) (o:Nat) (w:World),(w.setCells b o vs).heap[k]? = w.heap[k]?
 | [],_,_=>rfl
 | v :: r,o,w=>by
  rw[World.setCells,bB j r (o+1) (w.setCell ⟨b,o,none⟩ v)];exact Below.heap_setCell w ⟨b,o,none⟩ v k j
end
section
open Go.RowKit
attribute [local irreducible] wpQuiet wpAnyH
theorem i6(k x:Nat)(w:World)(D:1<=k)(I:k<=8)(J:x<256 ^ k):
  Calls prog 319 #[.int .i64 k,.int .u64 x] w λe w'=>∃ v,e = .returned v/\w'.ownsRow w.heap.size 5 1 v k (u8s (beB k x))/\Below w.heap.size w w':=by
 go_enter func319,ntmps319
 go_wp2_with fail
 refine(k9 k x w D I J).mono ?_;rintro e K ⟨v,rfl,j,hb⟩;go_wp2_with fail
 go_ret;exact⟨_,rfl,j,hb⟩
structure Parts(w:World)(va:Value)(ps:List (Value×List Int)):Prop where
 row:Sn w 1 va ps.length (ps.map (·.1))
 part:∀ p∈ps,Sn w 1 p.1 p.2.length (u8s p.2)
theorem Parts.below{w w':World}{j:Value}{ps:List (Value×List Int)}(h:Parts w j ps)(hb:Below w.heap.size w w'):Parts w' j ps:=
 ⟨h.row.below hb,λp x=>(h.part p x).below hb⟩
def d6(ps:List (Value×List Int)):Nat:=(ps.map (λp=>p.2.length)).sum
theorem FC(ps:List (Value×List Int))(k:Nat)(h:k<ps.length):d6 (ps.take (k+1))=d6 (ps.take k)+ps[k].2.length:=by
 unfold d6;rw[j6 h,List.map_append,List.sum_append];simp only[List.map_cons,List.map_nil,List.sum_cons,List.sum_nil,Nat.add_zero]
theorem t8(ps:List (Value×List Int))(k:Nat):d6 (ps.take k)<=d6 ps:=by
 have:d6 ps=d6 (ps.take k)+d6 (ps.drop k):=by
  unfold d6
  conv=>lhs;rw[<- List.take_append_drop k ps]
  rw[List.map_append,List.sum_append]
 omega
def cat(ps:List (Value×List Int)):List Int:=ps.flatMap (·.2)
theorem BY(ps:List (Value×List Int))(k:Nat)(h:k<ps.length):cat (ps.take (k+1))=cat (ps.take k)++ps[k].2:=by
 unfold cat;rw[j6 h,List.flatMap_append];simp only[List.flatMap_cons,List.flatMap_nil,List.append_nil]
theorem oZ(ps:List (Value×List Int)):(cat ps).length=d6 ps:=by
 unfold cat d6;rw[List.length_flatMap]
theorem Parts.at{w:World}{A:Option Addr}{cap:Nat}{ps:List (Value×List Int)}(h:Parts w (.slice A ps.length cap) ps)(k:Nat)(J:k<ps.length):
  ∃ b off j x,A=some ⟨b,off,none⟩/\w.cell? ⟨b,off+k,none⟩=some (.slice j ps[k].2.length x)/\Sn w 1 (.slice j ps[k].2.length x) ps[k].2.length (u8s ps[k].2):=by
 obtain⟨R,I,hv,_,U,O⟩:=h.row;injection hv with hA _ _
 subst hA;obtain⟨b,off,rfl,K⟩:=O (by omega);have D:=h.part ps[k] (List.getElem_mem J);obtain⟨j,x,e,_,_,_⟩:=id D;have:=K k ps[k].1 (by simp[J]);rw[e] at this D;exact⟨b,off,j,x,rfl,this,D⟩
theorem lP(va:Value)(ps:List (Value×List Int))(w:World)(hp:Parts w va ps)(hn:ps.length<=1000)(ht:d6 ps<=1000000):
  Calls prog 167 #[va] w λe w'=>∃ v,e = .returned v/\w'.ownsRow w.heap.size 5 1 v (d6 ps) (u8s (cat ps))/\Below w.heap.size w w':=by
 obtain⟨A,cap,rfl,a8,_,_⟩:=id hp.row;have HP:=jz hp;clear hp;obtain⟨i,hi,hz,a7,a3⟩:=info_parts (P:=prog) (e:=5) (z:=.int .u8 0) (size:=1) (bytes:=1) (by kernel_rfl);go_enter func167,ntmps167
 go_wp2_with fail
 go_loopw [11,3] (λi n wr=>∃ k:Nat,k<=ps.length/\i = .int .i64 k/\n = .int .i64 (d6 (ps.take k))/\wr=w) (λi _ _=>ps.length-(intOf i).toNat)
 case atStart=>exact⟨0,j0 _,rfl,rfl,rfl⟩
 case round=>
  obtain⟨k,hk,rfl,rfl,hw⟩:=hrel;rw[hw];clear hw;by_cases hlt:k<ps.length
  ·obtain⟨b,off,A',c',rfl,hc,_⟩:=HP.at k hlt;have I:=FC ps k hlt;have h1:=t8 ps k;have V:=t8 ps (k+1);rw[I] at V;have D:=jz I;obtain⟨m,hm⟩:=je (ps[k].2.length);obtain⟨y,hy⟩:=je (d6 (ps.take k));rw[<- hm] at hc V D;rw[<- hy] at h1 V D ⊢;have a5:(0:Int)<=k:=by omega
   have a6:(k:Int)<ps.length:=by omega
   clear hm hy I;go_wp2_with fail
   refine⟨⟨k+1,by omega,by go_num,?_,by trivial⟩,by simp[intOf];omega⟩;rw[D.out];simp
  ·obtain rfl:k=ps.length:=by omega
   rw[List.take_length];obtain⟨T,hT⟩:=je (d6 ps);have HT:=jz hT;rw[<- hT] at ht ⊢;clear hT;go_wp2_with (at_make;refine wpList_make_own _ rfl (.const (.int .i64 0)) (.tmp 20) 68 rfl w.heap.size 5 i (.int .u8 0) 1 underlying68 hi hz a7 .i64 .i64 (T:Int) T rfl rfl rfl (by rw[a3];omega) (by unfold maxLen;omega) (ja _) ?_;intro w2 U hg)
   have a1:Below w.heap.size w w2:=(ji _ w).grown hg (ja _) (λg e=>by cases e);clear hg;go_loopw [24,6] (λi v wr=>∃ k:Nat,k<=ps.length/\i = .int .i64 k/\wr.ownsRow w.heap.size 5 1 v (cat (ps.take k)).length (u8s (cat (ps.take k)))/\Below w.heap.size w wr) (λi _ _=>ps.length-(intOf i).toNat)
   case atStart=>exact⟨0,j0 _,rfl,U,a1⟩
   case round=>
    obtain⟨k,hk,rfl,j,K⟩:=hrel;by_cases hlt:k<ps.length
    ·obtain⟨b,off,A',c',rfl,hc,R⟩:=(HP.below K).at k hlt;have I:=BY ps k hlt;have J:=oZ (ps.take (k+1));have V:=t8 ps (k+1);have a0:=HT.out;rw[I] at J;have D:=jz I;obtain⟨x,hx⟩:=je (ps[k].2);obtain⟨y,hy⟩:=je (cat (ps.take k));rw[<- hx] at hc R D J;rw[<- hy] at j D J;have Z:=jz R;have b0:y.length+x.length<=1000000:=by
      rw[jj] at J;omega
     have a9:=K.size;have a5:(0:Int)<=k:=by omega
     have a6:(k:Int)<ps.length:=by omega
     clear R hx hy I J a0;go_wp2_with (at_builtin;refine app tY (.tmp 28) (.tmp 29) rfl rfl rfl j rfl Z (bR x) (by unfold maxLen;omega) (by omega) (by omega) ?_;intro v4 w4 O a4 _)
     have a2:Below w.heap.size w w4:=K.grown a4 (by omega) (λg hg=>(j.lt g hg).1);refine⟨⟨k+1,by omega,by go_num,?_,a2⟩,by simp[intOf];omega⟩;rw[D.out,jj,fK];exact O
    ·obtain rfl:k=ps.length:=by omega
     rw[List.take_length] at j;go_wp2_with fail
     go_ret;refine⟨_,rfl,?_,K⟩;rw[HT.out,<- oZ];exact j
end
section
open Go.RowKit
section
variable {P : Program} {ops : Array Oper} {rest : List Oper} {o : Oper} {a : Act} {w : World} {Q : Exit -> Act -> World -> Prop}
theorem al(ty:TypeId)(zs:Array Value)(x:o.op = .alloc ty)(D:Region.wanted o (yielded ops a.tmps)=true)(I:∀ w,(zeroValue ty).run P w = .ok (.agg zs) w)
  (h:wpList P ops Q rest (a.put o.dst (.pointer (some ⟨w.heap.size,0,none⟩))) (w.alloc (.cells zs ty))):wpList P ops Q (o :: rest) a w:=
 wpList_step λK j=>by
  rw[jP D];unfold Oper.wp;have:(execOp a.eval o).run P w = .ok (.value (.pointer (some ⟨w.heap.size,0,none⟩))) (w.alloc (.cells zs ty)):=by
   unfold execOp;simp only[x];unfold Instr.alloc newVar newRow;simp[Sem.run_bind,I,Value.cells]
  rw[this,Oper.upon_value];exact j _ _ h
theorem mZ{dT sT ty elem:TypeId}{b off dn dc n:Nat}{v:Value}{D:List Value}(O:P.underlying dT=some (.slice elem))(hs:(P.info? elem).map (·.size)=some 1)(hx:Sn w 1 v n D)(V:n<=dn)(ht:w.there b off n)(h1:∀ u∈D,u.oneCell'=true):
  (Builtin.copy_ #[dT,sT] ty #[.slice (some ⟨b,off,none⟩) dn dc,v]).run P w = .ok (goInt n) (w.setCells b off D):=by
 obtain⟨A,cap,rfl,hc,U,x⟩:=hx;rcases Nat.eq_zero_or_pos n with rfl|Z
 ·obtain rfl:D=[]:=List.eq_nil_of_length_eq_zero (by simpa using U);cases A with
  | none=>
   cases hq:P.info? elem with
   | none=>simp[hq] at hs
   | some i=>simp[Builtin.copy_,run_underlying O,Builtin.lenOf,Builtin.firstCells,sizeOf,typeInfo,hq,storeCells,World.setCells]
  | some a=>exact run_copy_cells w dT sT ty elem b off dn dc a 0 cap [] O hs (by simp) (λj v h=>by simp at h) (λj h=>by simp at h) (λj h=>by simp at h) (λv h=>by simp at h)
 ·obtain⟨R,J,rfl,hr⟩:=x Z;have I:D.length=n:=by omega
  have:=run_copy_cells w dT sT ty elem b off dn dc ⟨R,J,none⟩ n cap D O hs (by rw[I];exact(Nat.min_eq_left V).symm) (λj v K=>by rw[Addr.add_mid];exact hr j v K) (λj K=>(ht j (by omega)).1) (λj K=>(ht j (by omega)).2) h1;rw[I] at this;exact this
theorem cp{dT sT elem:TypeId}(p q:Operand)(I:o.op = .call { callee:=.builtin .copy,args:=#[p,q],argTypes:=#[dT,sT] })(U:Region.wanted o (yielded ops a.tmps)=true)
  {b off dn dc n:Nat} {v:Value} {j:List Value} (J:a.eval p = .slice (some ⟨b,off,none⟩) dn dc) (O:a.eval q=v) (R:P.underlying dT=some (.slice elem)) (hs:(P.info? elem).map (·.size)=some 1) (V:Sn w 1 v n j) (D:n<=dn) (ht:w.there b off n) (h1:∀ u∈j,u.oneCell'=true)
  (h:wpList P ops Q rest (a.put o.dst (goInt n)) (w.setCells b off j)):wpList P ops Q (o :: rest) a w:=
 wpList_step λK x=>by
  rw[jP U];have hrun:=mZ (P:=P) (ty:=o.type) (sT:=sT) (dc:=dc) R hs V D ht h1;unfold Oper.wp execOp;simp only[I,resolve,invoke,builtin,Sem.run_bind,Sem.run_pure,Result.andThen_ok,List.map_toArray,List.map_cons,List.map_nil,J,O,hrun];exact x _ _ h
theorem VQ{S:World->Prop}{listed:Array Bool}{fuel:Nat}{x:List Nat}(i:Nat){dT sT elem:TypeId}(p q:Operand)(dst:Option Tmp)(hd:(ops[i]?).map (λo=>(o.op,o.dst))=some (.call { callee:=.builtin .copy,args:=#[p,q],argTypes:=#[dT,sT] },dst))(U:(ops[i]?).map (λo=>Region.wanted o (yielded ops a.tmps))=some true)
  {b off dn dc n:Nat} {v:Value} {j:List Value} (J:a.eval p = .slice (some ⟨b,off,none⟩) dn dc) (K:a.eval q=v) (R:P.underlying dT=some (.slice elem)) (hs:(P.info? elem).map (·.size)=some 1) (V:Sn w 1 v n j) (D:n<=dn) (ht:w.there b off n) (h1:∀ u∈j,u.oneCell'=true) (hS:S (w.setCells b off j))
  (h:wpAnyH P .any ops Q S fuel (listed.setIfInBounds i true) (a.put dst (goInt n)) (w.setCells b off j)) (O:AllReadyH P .any ops Q S fuel listed a w x):AllReadyH P .any ops Q S fuel listed a w (i :: x):=
 BU i _ dst _ _ hd U (λo I=>by
  have hrun:=mZ (P:=P) (ty:=o.type) (sT:=sT) (dc:=dc) R hs V D ht h1
  unfold execOp
  simp only[I,resolve,invoke,builtin,Sem.run_bind,Sem.run_pure,Result.andThen_ok,List.map_toArray,List.map_cons,List.map_nil,J,K,hrun]) hS h O
theorem aC{fn:Func}{p u:Tmp}{ty:TypeId}(h:fn.results=#[.cell p ty,.tmp u])(tmps:Array Value){b off:Nat}{cs:List Value}{d:TypeDesc}(x:tmps.getD p undef = .pointer (some ⟨b,off,none⟩))(j:w.rangeAt b off cs)
  (D:P.underlying ty=some d) (hd:d.isRow=true) (hi:(P.info? ty).map (·.size)=some cs.length):(results fn tmps).run P w = .ok (.tuple #[.agg cs.toArray,tmps.getD u undef]) w:=by
 rw[results_cell_tmp h,x];simp only[asAddr,Sem.run_pure,Result.andThen_ok,run_loadVar_mid w b off ty cs d j D hd hi]
end
end
section
open Go.RowKit
def RU:Value->Option (DataW Value×List MemPlace):=λv=>some (.held v,[])
theorem ikeyed:Maps.Keyed prog 3:=Maps.int_keyed underlying3
theorem KD{k:Int}(h:aD k):keyOf prog 3 (.int .i64 k)=some (.int .i64 k):=Maps.keyOf_int_mk underlying3 (tX h)
def UFits(D:DataW Value)(f:Int->Option Value):Prop:=∀ k,aD k->match f k with
 | none=>Maps.has D (.int .i64 k)=false
 | some v=>Maps.has D (.int .i64 k)=true/\∀ z,D.atKey (.int .i64 k) z = .held v
def UM(w:World)(b n:Nat)(f:Int->Option Value):Prop:=∃ D,w.ownsMap prog 3 RU b n D/\UFits D f
def lQ(f:Int->Option Value)(k:Int)(v:Value):Int->Option Value:=λx=>if x=k then some v else f x
def sX(f:Int->Option Value)(k:Int):Int->Option Value:=λx=>if x=k then none else f x
theorem UM.lt{w:World}{b n:Nat}{f:Int->Option Value}(h:UM w b n f):b<w.heap.size:=by
 obtain⟨D,h,_⟩:=h;exact h.lt
theorem UM.of_block{w w':World}{b n:Nat}{f:Int->Option Value}(h:UM w b n f)(e:w'.heap[b]? = w.heap[b]?):UM w' b n f:=by
 obtain⟨D,⟨j,clock,hb,r⟩,x⟩:=h;exact⟨D,⟨j,clock,e.trans hb,r⟩,x⟩
theorem UM.keep{w w':World}{b n:Nat}{f:Int->Option Value}(h:UM w b n f)(hb:Below w.heap.size w w'):UM w' b n f:=h.of_block (hb.block b h.lt)
theorem UM.mono{w:World}{b n m:Nat}{f:Int->Option Value}(h:UM w b n f)(x:n<=m):UM w b m f:=by
 obtain⟨D,h,j⟩:=h;exact⟨D,h.mono x,j⟩
theorem UM.made(w:World):UM (w.alloc (.map #[] 0)) w.heap.size 0 (λ_=>none):=
 ⟨.map [],World.ownsMap_made _ _ _ _,λ_ _=>rfl⟩
theorem UM.madeAt(w:World)(b:Nat)(hb:w.heap.size=b):UM (w.alloc (.map #[] 0)) b 0 (λ_=>none):=by
 subst hb;exact UM.made w
theorem UM.congr{w:World}{b n:Nat}{f f':Int->Option Value}(h:UM w b n f)(e:∀ k,aD k->f k=f' k):UM w b n f':=by
 obtain⟨D,h,x⟩:=h;exact⟨D,h,λk j=>by rw[<- e k j];exact x k j⟩
theorem UFits.has{D:DataW Value}{f:Int->Option Value}(h:UFits D f){k:Int}(j:aD k):Maps.has D (.int .i64 k)=(f k).isSome:=by
 have:=h k j;cases hf:f k with
 | none=>rw[hf] at this;exact this
 | some v=>rw[hf] at this;exact this.1
theorem UFits.at{D:DataW Value}{f:Int->Option Value}(h:UFits D f){k:Int}(j:aD k)(z:Value):D.atKey (.int .i64 k) (.held z) = .held ((f k).getD z):=by
 have:=h k j;cases hf:f k with
 | none=>rw[hf] at this;exact Maps.atKey_of_not_has this _
 | some v=>rw[hf] at this;exact this.2 _
section
variable {w : World} {b n : Nat} {f : Int -> Option Value} {tM e : TypeId} (ht : prog.underlying tM = some (.map 3 e))
include ht
theorem UM.look(h:UM w b n f){z:Value}(O:(zeroValue e).run prog w = .ok z w){k:Int}(J:aD k):
  (Instr.lookup tM (.map (some b)) (.int .i64 k) true).run prog w = .ok (.tuple #[(f k).getD z,.bool (f k).isSome]) w:=by
 obtain⟨D,j,K⟩:=h;obtain⟨v,ps,hrun,I⟩:=j.look_ok ikeyed ht O (zd:=.held z) (zp:=[]) rfl (KD J);rw[K.has J] at hrun;rw[K.at J] at I;have I:=congrArg (λo:Option (DataW Value×List MemPlace)=>match o with|some (.held x,_)=>x|_=>undef) I;dsimp only [RU] at I;subst I;exact hrun
theorem UM.look1(h:UM w b n f){z:Value}(O:(zeroValue e).run prog w = .ok z w){k:Int}(J:aD k):
  (Instr.lookup tM (.map (some b)) (.int .i64 k) false).run prog w = .ok ((f k).getD z) w:=by
 obtain⟨D,j,K⟩:=h;obtain⟨v,ps,hrun,I⟩:=j.lookup ikeyed ht O (zd:=.held z) (zp:=[]) rfl (KD J);rw[K.at J] at I;have I:=congrArg (λo:Option (DataW Value×List MemPlace)=>match o with|some (.held x,_)=>x|_=>undef) I;dsimp only [RU] at I;subst I;exact hrun
theorem UM.put_run(h:UM w b n f){k:Int}(U:aD k)(v:Value)(V:n<maxLen):
  ∃ w',(Instr.mapUpdate tM (.map (some b)) (.int .i64 k) v).run prog w = .ok () w'/\UM w' b (n+1) (lQ f k v)/\w.mapTurned w' b:=by
 obtain⟨D,j,R⟩:=h;obtain⟨w',hrun,O,J⟩:=j.store ikeyed ht V (KD U) (val:=v) (d:=.held v) (ps:=[]) rfl;refine⟨w',hrun,⟨_,O,λx K=>?_⟩,J⟩;unfold lQ;by_cases hxk:x=k
 ·subst hxk;rw[jP rfl];exact⟨Maps.has_put_same j.isMap (ikeyed.key (KD K)) _,λz=>Maps.atKey_put_same j.isMap (ikeyed.key (KD K)) _ z⟩
 ·rw[jQ hxk];have I:(Lit.int .i64 x)≠.int .i64 k:=λe=>hxk (by injection e)
  have:=R x K;cases hfx:f x with
  | none=>rw[hfx] at this;exact(Maps.has_put_other I _).trans this
  | some t'=>
   rw[hfx] at this;exact⟨(Maps.has_put_other I _).trans this.1,λz=>(Maps.atKey_put_other I _ z).trans (this.2 z)⟩
theorem UM.del_run(h:UM w b n f){k:Int}(R:aD k)(ty:TypeId):
  ∃ w',(Builtin.delete_ #[tM,3] ty #[.map (some b),.int .i64 k]).run prog w = .ok (.tuple #[]) w'/\UM w' b n (sX f k)/\w.mapTurned w' b:=by
 obtain⟨D,I,O⟩:=h;obtain⟨w',hrun,K,J⟩:=I.drop ikeyed ht (KD R) ty;refine⟨w',hrun,⟨_,K,λx U=>?_⟩,J⟩;unfold sX;by_cases hxk:x=k
 ·subst hxk;rw[jP rfl];exact Maps.has_del_same
 ·rw[jQ hxk];have j:(Lit.int .i64 x)≠.int .i64 k:=λe=>hxk (by injection e)
  have:=O x U;cases hfx:f x with
  | none=>rw[hfx] at this;exact(Maps.has_del_other j).trans this
  | some t'=>
   rw[hfx] at this;exact⟨(Maps.has_del_other j).trans this.1,λz=>(Maps.atKey_del_other j z).trans (this.2 z)⟩
theorem UM.clear_run(h:UM w b n f)(ty:TypeId):
  ∃ w',(Builtin.clear_ #[tM] ty #[.map (some b)]).run prog w = .ok (.tuple #[]) w'/\UM w' b n (λ_=>none)/\w.mapTurned w' b:=by
 obtain⟨D,⟨j,clock,hb,F,hs,J⟩,K⟩:=h;refine⟨ChangeMaps.setBlock w b (.map #[] clock),?_,⟨.map [],⟨#[],clock,?_,?_,j0 _,rfl⟩,λ_ _=>rfl⟩,⟨j,clock,#[],clock,hb,rfl⟩⟩
 ·simp[Builtin.clear_,run_underlying ht,MapKept.run_getObj_map hb,MapKept.run_setObj_map _ hb,Result.andThen];rfl
 ·exact ChangeMaps.heap_setBlock_same hb _
 ·exact⟨j0 _,by simp[MapKept.Stamped],λx I=>by simp at I⟩
end
end
section
open Go.RowKit
def z64:Array Value:=(u8s (List.replicate 64 0)).toArray
def pad(l:List Int):List Int:=l++List.replicate (64-l.length) 0
theorem uA(l:List Int)(h:l.length<=64):(pad l).length=64:=by simp[pad];omega
theorem R9{l:List Int}(h:Bys l):Bys (pad l):=λb hb=>by
 unfold pad at hb;rcases List.mem_append.1 hb with hb|hb
 ·exact h b hb
 ·have:=(List.mem_replicate.1 hb).2;omega
theorem cS:z64.size=64:=by simp[z64,u8s]
theorem uB(cs:Array Value)(n:Nat)(D:cs.size=n)(xs:List Value)(off:Nat)(h:off+xs.length<=n)(i:Nat):((xs.zipIdx off).foldl (fun(cs:Array Value) (x:Value×Nat)=>cs.setIfInBounds x.2 x.1) cs)[i]? = if off<=i/\i<off+xs.length then xs[i-off]? else cs[i]?:=by
 rw[mY,D];by_cases h1:off<=i/\i<off+xs.length
 ·rw[jP ⟨h1.1,h1.2,by omega⟩,jP h1]
 ·rw[jQ (λj=>h1 ⟨j.1,j.2.1⟩),jQ h1]
theorem SD(l:List Int)(h:l.length<=64):((u8s l).zipIdx 0).foldl (fun(cs:Array Value) (x:Value×Nat)=>cs.setIfInBounds x.2 x.1) z64=(u8s (pad l)).toArray:=by
 apply Array.ext_getElem?;intro i;rw[uB z64 64 cS (u8s l) 0 (by rw[aI];omega),aI,show(u8s (pad l)).toArray[i]? = (u8s (pad l))[i]? by simp];unfold pad;rw[fK];by_cases h1:i<l.length
 ·rw[jP ⟨j0 _,by omega⟩,jy (by rw[aI];exact h1),Nat.sub_zero]
 ·rw[jQ (by omega),jx (by rw[aI];omega),aI];unfold z64;simp only[u8s,List.map_replicate,jf,List.getElem?_replicate];by_cases h2:i<64
  ·rw[jP h2,jP (by omega)]
  ·rw[jQ h2,jQ (by omega)]
attribute [irreducible] z64 pad
theorem dG:∀ w,(zeroValue 243).run prog w = .ok (.agg z64) w:=λw=>by unfold z64;kernel_rfl
theorem BZ(vb:Value)(l:List Int)(w:World)(hs:Sn w 1 vb l.length (u8s l))(hl:l.length<=64):
  Calls prog 330 #[vb] w λe w'=>e = .returned (.tuple #[.agg (u8s (pad l)).toArray,.bool true])/\Below w.heap.size w w':=by
 obtain⟨A,cap,rfl,b7,_,_⟩:=id hs;have HS:=jz hs;have c2:¬(64:Int)<l.length:=by omega
 have b0:=uA l hl;have J:(u8s (pad l)).length=64:=by rw[aI,b0]
 have b1:=bR l;clear hs;obtain⟨O,D⟩:=je ((w.alloc (.cells z64 243)).alloc (.cells z64 243));have U:Blk O w.heap.size 243 z64:=by rw[D];exact(Blk.new w _ _).alloc _
 have I:Blk O (w.heap.size+1) 243 z64:=by rw[D];exact Blk.newAt _ _ _ _ (by simp)
 have V:Below w.heap.size w O:=by rw[D];exact(by repeat (first|exact ji _ _|assumption|refine bY ?_ _|refine Below.setCell ?_ (by first|exact ja _|assumption|omega|(simp <;> omega)) _|refine Below.alloc ?_ (by first|exact ja _|assumption|omega|(simp <;> omega)) _))
 have a1:Sn O 1 (.slice A l.length cap) l.length (u8s l):=by rw[D];exact(HS.alloc _).alloc _
 have a2:O.there (w.heap.size+1) 0 l.length:=λj hj=>⟨by
  rw[I.cell,Array.getElem?_eq_getElem (by rw[cS];omega)];rfl,I.frozen _⟩
 have x:=dJ (u8s l) 0 O z64 I;rw[SD l hl] at x;have K:Blk (O.setCells (w.heap.size+1) 0 (u8s l)) w.heap.size 243 z64:=(bB (by omega) _ _ _).trans U;have Z:Below w.heap.size w (O.setCells (w.heap.size+1) 0 (u8s l)):=V.trans (aS (by omega) _ _ _).1;have R:=x.range;rw[jt] at R;have hz:z64.size=(u8s (pad l)).toArray.size:=by rw[cS];simp[J]
 have a3:=jz K;have a4:=jz Z;have a5:=jz R;have a7:=jz a2;have a6:=jz a1;clear U I V a1 a2 x K Z R;have h1:=dI (pad l);subst D;go_enter func330,ntmps330
 go_wp2_with (first
  | (refine al 243 z64 rfl rfl dG ?_)
  | (refine cp (.tmp 9) (.tmp 10) rfl rfl rfl rfl underlying68 (by kernel_rfl) a6 hl a7 b1 ?_)
  | (refine ld 243 _ rfl rfl rfl a5 underlying243 rfl (by rw[J];kernel_rfl) ?_)
  | (refine aO 243 (.tmp 2) (.tmp 12) rfl rfl rfl rfl a3 (by simp only[js,J];kernel_rfl) hz h1 ?_;intro w3 a8 a9 _ _))
 have a0:=a8.range;rw[jt] at a0;refine bodyPost_ret (aC rfl _ rfl a0 underlying243 rfl (by rw[J];kernel_rfl)) rfl ⟨rfl,a4.trans a9⟩
structure DiskM where
 g:Nat
 sv:Value
 ov:Value
 bl:Nat
 bf:Nat
 bc:Nat
 fv:Int->Option Value
 cv:Int->Option Value
structure DiskD where
 sec:List (List Int)
 opn:List (Int×List Int)
 down:Bool
 steps:Nat
 fl:Int->Bool
 cr:Int->Option (List Int)
 room:Nat
def aX(m:DiskM):List Nat:=[m.g,m.bl,m.bf,m.bc]++(m.sv.ownBlock.toList++m.ov.ownBlock.toList)
def wrC(p:Int×List Int):List Value:=.int .i64 p.1 :: u8s p.2
def eJ(l:List (Int×List Int)):Int->Option Value:=l.zipIdx.foldl (λf p=>lQ f p.1.1 (.int .i64 (p.2:Nat))) (λ_=>none)
def rdD(d:DiskD)(at_:Int):List Int:=(((d.opn.filter (λp=>p.1 == at_)).getLast?).map (·.2)).getD (d.sec.getD at_.toNat [])
def eE(m:DiskM)(d:DiskD):Array Value:=#[m.sv,m.ov,.map (some m.bl),.bool d.down,.int .i64 d.steps,.map (some m.bf),.map (some m.bc)]
def Sec(s:List Int):Prop:=s.length=64/\Bys s
structure DOk(d:DiskD):Prop where
 sec:∀ s∈d.sec,Sec s
 opn:∀ p∈d.opn,0<=p.1/\p.1<d.sec.length/\Sec p.2
 few:d.sec.length<=4096
 lo:d.opn.length<=d.room
 st:d.steps<=d.room
 rm:d.room<=100000
 cl:∀ k cs,d.cr k=some cs->cs.length<=1000000
structure DK(w:World)(m:DiskM)(d:DiskD):Prop where
 blk:Blk w m.g 151 (eE m d)
 sec:w.ownsRow 0 243 64 m.sv d.sec.length (d.sec.flatMap u8s)
 opn:w.ownsRow 0 363 65 m.ov d.opn.length (d.opn.flatMap wrC)
 last:UM w m.bl d.room (eJ d.opn)
 fl:UM w m.bf d.room m.fv
 cr:UM w m.bc d.room m.cv
 nd:(aX m).Nodup
 flv:∀ k,aD k->(m.fv k).getD (.bool false) = .bool (d.fl k)
 crv:∀ k,aD k->match d.cr k with
  | none=>m.cv k=none
  | some cs=>∃ v,m.cv k=some v/\Sn w 1 v cs.length (lN cs)/\∀ b,v.ownBlock=some b->b ∉ aX m/\b<w.heap.size
 ok:DOk d
structure Fo(F:List Nat)(w w':World):Prop where
 os:w'.os=w.os
 tape:w'.tape=w.tape
 output:w'.output=w.output
 size:w.heap.size<=w'.heap.size
 block:∀ k,k<w.heap.size->k ∉ F->w'.heap[k]? = w.heap[k]?
section
variable {F G : List Nat} {w w' w'' : World}
theorem Fo.of_below(h:Below w.heap.size w w'):Fo F w w':=⟨h.os,h.tape,h.output,h.size,λk j _=>h.block k j⟩
theorem Fo.refl:Fo F w w:=⟨rfl,rfl,rfl,ja _,λ_ _ _=>rfl⟩
theorem Fo.trans(h:Fo F w w')(k:Fo G w' w'')(D:∀ x∈G,x∈F\/w.heap.size<=x):Fo F w w'':=
 ⟨k.os.trans h.os,k.tape.trans h.tape,k.output.trans h.output,jm h.size k.size,λi hi j=>(k.block i (jp hi h.size) (λI=>(D i I).elim j λh1=>by omega)).trans (h.block i hi j)⟩
theorem Fo.trans_same(h:Fo F w w')(k:Fo F w' w''):Fo F w w'':=h.trans k λ_ h=>.inl h
theorem Fo.off{b:Nat}(h:Off b w w')(hb:b∈F):Fo F w w':=⟨h.os,h.tape,h.output,h.size,λk x j=>h.block k x λe=>j (e ▸ hb)⟩
theorem Fo.below{B:Nat}(h:Fo F w w')(j:∀ k∈F,B<=k)(D:B<=w.heap.size):Below B w w':=⟨h.os,h.tape,h.output,h.size,λk I=>h.block k (by omega) λx=>by have:=j k x;omega⟩
theorem Fo.set(h:Fo F w w')(b i:Nat)(hb:b∈F)(u:Value):Fo F w (w'.setCell ⟨b,i,none⟩ u):=
 ⟨h.os,h.tape,h.output,by simpa using h.size,λk x j=>(Below.heap_setCell w' ⟨b,i,none⟩ u k (λe=>j (e ▸ hb))).trans (h.block k x j)⟩
theorem Fo.drew(h:Fo F w w'):Fo F w w'.drew:=⟨h.os,h.tape,h.output,h.size,h.block⟩
theorem Fo.cell(h:Fo F w w'){a:Addr}{v:Value}(j:w.cell? a=some v)(x:a.block ∉ F):w'.cell? a=some v:=by
 have:=h.block a.block (dV j) x;unfold World.cell? at j ⊢;rw[this];exact j
theorem Fo.sn{s n:Nat}{v:Value}{I:List Value}(h:Fo F w w')(hs:Sn w s v n I)(D:∀ b,v.ownBlock=some b->b ∉ F):Sn w' s v n I:=by
 obtain⟨A,cap,rfl,J,O,U⟩:=hs;refine⟨A,cap,rfl,J,O,λR=>?_⟩;obtain⟨b,off,rfl,x⟩:=U R;exact⟨b,off,rfl,λj u K=>h.cell (x j u K) (D b rfl)⟩
end
theorem aP{w w':World}{base e s n:Nat}{v:Value}{x:List Value}(h:w.ownsRow base e s v n x)(hb:∀ b,v.ownBlock=some b->w'.heap[b]? = w.heap[b]?):w'.ownsRow base e s v n x:=by
 refine⟨h.1,?_⟩;rcases h.2 with D|⟨g,cap,j,rfl,hg,I,r⟩
 ·exact .inl D
 ·exact .inr ⟨g,cap,j,rfl,hg,by rw[hb g rfl];exact I,r⟩
theorem iR(m:DiskM):m.g∈aX m:=by simp[aX]
theorem nX(m:DiskM):m.bl∈aX m:=by simp[aX]
theorem nY(m:DiskM):m.bf∈aX m:=by simp[aX]
theorem l9(m:DiskM):m.bc∈aX m:=by simp[aX]
theorem pO{m:DiskM}{b:Nat}(h:m.sv.ownBlock=some b):b∈aX m:=by simp[aX,h]
theorem tH{m:DiskM}{b:Nat}(h:m.ov.ownBlock=some b):b∈aX m:=by simp[aX,h]
section
variable {w w' : World} {m : DiskM} {d : DiskD}
theorem DK.foot_lt(h:DK w m d):∀ k∈aX m,k<w.heap.size:=by
 intro k j;simp only[aX,ju,jl,j8,or_false,Option.mem_toList] at j;rcases j with (rfl|rfl|rfl|rfl)|j|j
 ·exact h.blk.lt
 ·exact h.last.lt
 ·exact h.fl.lt
 ·exact h.cr.lt
 ·exact(h.sec.lt k j).2
 ·exact(h.opn.lt k j).2
theorem DK.of_blocks(h:DK w m d)(hb:∀ k,k<w.heap.size->w'.heap[k]? = w.heap[k]?)(x:w.heap.size<=w'.heap.size):DK w' m d where
 blk:=(hb m.g h.blk.lt).trans h.blk
 sec:=aP h.sec λb I=>hb b (h.sec.lt b I).2
 opn:=aP h.opn λb I=>hb b (h.opn.lt b I).2
 last:=h.last.of_block (hb _ h.last.lt)
 fl:=h.fl.of_block (hb _ h.fl.lt)
 cr:=h.cr.of_block (hb _ h.cr.lt)
 nd:=h.nd
 flv:=h.flv
 crv:=λk O=>by
  have:=h.crv k O;cases hc:d.cr k with
  | none=>rw[hc] at this;exact this
  | some cs=>
   rw[hc] at this;obtain⟨v,h1,K,J⟩:=this;refine⟨v,h1,K.keep λa u D=>?_,λb hb=>⟨(J b hb).1,jp (J b hb).2 x⟩⟩;have j:=dV D;unfold World.cell? at D ⊢;rw[hb _ j];exact D
 ok:=h.ok
theorem DK.keep(h:DK w m d)(hb:Below w.heap.size w w'):DK w' m d:=h.of_blocks hb.block hb.size
theorem DK.drew(h:DK w m d):DK w.drew m d:=h.of_blocks (λ_ _=>rfl) (ja _)
structure DT(w:World)(m:DiskM)(w':World)(m':DiskM):Prop where
 g:m'.g=m.g
 fo:Fo (aX m) w w'
 sub:∀ k∈aX m',k∈aX m\/w.heap.size<=k
 cv:∀ k v,m'.cv k=some v->m.cv k=some v\/∀ b,v.ownBlock=some b->w.heap.size<=b
theorem DT.refl:DT w m w m:=⟨rfl,Fo.refl,λ_ h=>.inl h,λ_ _ h=>.inl h⟩
theorem DT.trans{w'':World}{m' m'':DiskM}(h:DT w m w' m')(k:DT w' m' w'' m''):DT w m w'' m'':=
 ⟨k.g.trans h.g,h.fo.trans k.fo h.sub,λx j=>by
  rcases k.sub x j with h1|h1
  ·exact h.sub x h1
  ·exact .inr (jm h.fo.size h1),λx v j=>by
  rcases k.cv x v j with h1|h1
  ·exact h.cv x v h1
  ·exact .inr (λb e=>jm h.fo.size (h1 b e))⟩
theorem DT.of_below(h:Below w.heap.size w w'):DT w m w' m:=⟨rfl,Fo.of_below h,λ_ h=>.inl h,λ_ _ h=>.inl h⟩
theorem DT.le{B:Nat}{m':DiskM}(h:DT w m w' m')(j:∀ k∈aX m,B<=k)(D:B<=w.heap.size):∀ k∈aX m',B<=k:=λk x=>by
 rcases h.sub k x with h1|h1
 ·exact j k h1
 ·omega
theorem DT.below{B:Nat}{m':DiskM}(h:DT w m w' m')(x:∀ k∈aX m,B<=k)(j:B<=w.heap.size):Below B w w':=h.fo.below x j
end
section
variable {w w' : World} {m m' : DiskM} {d d' : DiskD}
theorem DK.re(h:DK w m d)(hg:m'.g=m.g)(F:List Nat)(hF:∀ k∈F,k∈aX m)(ho:∀ k,k<w.heap.size->k ∉ F->w'.heap[k]? = w.heap[k]?)(U:w.heap.size<=w'.heap.size)
  (blk:Blk w' m.g 151 (eE m' d'))
  (sec:w'.ownsRow 0 243 64 m'.sv d'.sec.length (d'.sec.flatMap u8s))
  (opn:w'.ownsRow 0 363 65 m'.ov d'.opn.length (d'.opn.flatMap wrC))
  (last:UM w' m'.bl d'.room (eJ d'.opn)) (fl:UM w' m'.bf d'.room m'.fv) (cr:UM w' m'.bc d'.room m'.cv)
  (nd:(aX m').Nodup) (O:∀ b∈aX m',b∈aX m\/w.heap.size<=b)
  (flv:∀ k,aD k->(m'.fv k).getD (.bool false) = .bool (d'.fl k))
  (K:∀ k,aD k->(d'.cr k=none/\m'.cv k=none)\/(d'.cr k=d.cr k/\m'.cv k=m.cv k)) (ok:DOk d'):DK w' m' d' where
 blk:=by rw[hg];exact blk
 sec:=sec
 opn:=opn
 last:=last
 fl:=fl
 cr:=cr
 nd:=nd
 flv:=flv
 crv:=λk Z=>by
  rcases K k Z with ⟨h1,D⟩|⟨h1,D⟩
  ·rw[h1];exact D
  ·have I:=h.crv k Z;rw[h1];cases hc:d.cr k with
   | none=>rw[hc] at I;exact D.trans I
   | some cs=>
    rw[hc] at I;obtain⟨v,hv,hs,hb⟩:=I;refine⟨v,D.trans hv,?_,λb e=>⟨λR=>?_,jp (hb b e).2 U⟩⟩
    ·obtain⟨A,cap,rfl,J,hl,hx⟩:=hs;refine⟨A,cap,rfl,J,hl,λhp=>?_⟩;obtain⟨b,off,rfl,x⟩:=hx hp;exact⟨b,off,rfl,λj u hj=>(World.cell?_of_block (a:=⟨b,off+j,none⟩) (ho b (hb b rfl).2 (λR=>(hb b rfl).1 (hF b R)))).trans (x j u hj)⟩
    ·rcases O b R with V|V
     ·exact(hb b e).1 V
     ·have:=(hb b e).2;omega
 ok:=ok
theorem iF{m:DiskM}(h:(aX m).Nodup):m.g≠m.bl/\m.g≠m.bf/\m.g≠m.bc/\m.bl≠m.bf/\m.bl≠m.bc/\m.bf≠m.bc/\(∀ b,m.sv.ownBlock=some b->b≠m.g/\b≠m.bl/\b≠m.bf/\b≠m.bc)/\(∀ b,m.ov.ownBlock=some b->b≠m.g/\b≠m.bl/\b≠m.bf/\b≠m.bc)/\(∀ b,m.sv.ownBlock=some b->m.ov.ownBlock≠some b):=by
 unfold aX at h;rw[List.nodup_append] at h;obtain⟨h1,D,x⟩:=h;rw[List.nodup_append] at D;obtain⟨_,_,I⟩:=D;simp only[List.nodup_cons,jl,j8,or_false,not_or] at h1;refine⟨h1.1.1,h1.1.2.1,h1.1.2.2,h1.2.1.1,h1.2.1.2,h1.2.2.1,λb e=>?_,λb e=>?_,λb e e2=>?_⟩
 ·have j:b∈m.sv.ownBlock.toList++m.ov.ownBlock.toList:=by simp[e]
  exact⟨λe3=>x m.g (by simp) b j e3.symm,λe3=>x m.bl (by simp) b j e3.symm,λe3=>x m.bf (by simp) b j e3.symm,λe3=>x m.bc (by simp) b j e3.symm⟩
 ·have j:b∈m.sv.ownBlock.toList++m.ov.ownBlock.toList:=by simp[e]
  exact⟨λe3=>x m.g (by simp) b j e3.symm,λe3=>x m.bl (by simp) b j e3.symm,λe3=>x m.bf (by simp) b j e3.symm,λe3=>x m.bc (by simp) b j e3.symm⟩
 ·exact I b (by simp[e]) b (by simp[e2]) rfl
theorem DK.room(h:DK w m d)(r:Nat)(h1:d.room<=r)(j:r<=100000):DK w m { d with room:=r } where
 blk:=h.blk
 sec:=h.sec
 opn:=h.opn
 last:=h.last.mono h1
 fl:=h.fl.mono h1
 cr:=h.cr.mono h1
 nd:=h.nd
 flv:=h.flv
 crv:=h.crv
 ok:=⟨h.ok.sec,h.ok.opn,h.ok.few,jm h.ok.lo h1,jm h.ok.st h1,j,h.ok.cl⟩
end
theorem r4(l:List (Int×List Int))(p:Int×List Int):eJ (l++[p])=lQ (eJ l) p.1 (.int .i64 (l.length:Nat)):=by
 unfold eJ;rw[List.zipIdx_append,List.foldl_append];simp
theorem uC:eJ []=λ_=>none:=rfl
theorem SE{α:Type}{Q:List α->Prop}(j:Q [])(h1:∀ l p,Q l->Q (l++[p]))(l:List α):Q l:=by
 have:∀ l:List α,Q l.reverse:=λl=>by
  induction l with
  | nil=>exact j
  | cons x l ih=>rw[List.reverse_cons];exact h1 _ _ ih
 have h:=this l.reverse
 rwa [List.reverse_reverse] at h
theorem B0(l:List (Int×List Int)):∀ k:Int,match eJ l k with
  | none=>l.filter (λp=>p.1 == k)=[]
  | some v=>∃(i:Nat) (h:i<l.length),v = .int .i64 i/\(l.filter (λp=>p.1 == k)).getLast? = some l[i]:=by
 refine SE (Q:=λl=>∀ k:Int,match eJ l k with
  | none=>l.filter (λp=>p.1 == k)=[]
  | some v=>∃(i:Nat) (h:i<l.length),v = .int .i64 i/\(l.filter (λp=>p.1 == k)).getLast? = some l[i]) (λk=>rfl) (λl p ih k=>?_) l
 ·show _;rw[r4];unfold lQ;by_cases hk:k=p.1
  ·rw[jP hk];refine⟨l.length,by simp,rfl,?_⟩;rw[List.filter_append];simp[hk]
  ·rw[jQ hk];have:=ih k;have x:(l++[p]).filter (λp=>p.1 == k)=l.filter (λp=>p.1 == k):=by
    rw[List.filter_append];have j:¬p.1=k:=λe=>hk e.symm
    simp[j]
   cases hl:eJ l k with
   | none=>rw[hl] at this;simp only at this ⊢;rw[x];exact this
   | some v=>
    rw[hl] at this;obtain⟨i,hi,rfl,h1⟩:=this;refine⟨i,by simp;omega,rfl,?_⟩;rw[x,h1,List.getElem_append_left hi]
attribute [irreducible] eJ
theorem fL{p:Int×List Int}(h:Sec p.2):(wrC p).length=65:=by simp[wrC,aI,h.1]
theorem aF{s:List Int}(h:Sec s):(u8s s).length=64:=by rw[aI,h.1]
theorem I0{d:DiskD}(h:DOk d)(a:Int)(D:0<=a)(h1:a<d.sec.length):Sec (rdD d a):=by
 unfold rdD;cases hf:(d.opn.filter (λp=>p.1 == a)).getLast? with
 | none=>
  have j:a.toNat<d.sec.length:=by omega
  have x:d.sec.getD a.toNat []=d.sec[a.toNat]:=by simp[jn,List.getElem?_eq_getElem j]
  simp only[Option.map_none,Option.getD_none,x];exact h.sec _ (List.getElem_mem j)
 | some p=>
  simp only[Option.map_some,Option.getD_some];have:=List.mem_of_getLast? hf;exact(h.opn p (List.mem_filter.1 this).1).2.2
end
section
open Go.RowKit
attribute [local irreducible] wpQuiet wpAnyH
def zsec:List Int:=List.replicate 64 0
theorem iJ:Sec zsec:=⟨by simp[zsec],λb hb=>by have:=(List.mem_replicate.1 hb).2;omega⟩
def eT(n:Nat):DiskD:={ sec:=List.replicate n zsec,opn:=[],down:=false,steps:=0,fl:=λ_=>false,cr:=λ_=>none,room:=0 }
theorem B6:u8s zsec=List.replicate 64 (.int .u8 0):=by simp[zsec,u8s]
theorem nZ(n:Nat):(List.replicate n zsec).flatMap u8s=List.replicate (n*64) (.int .u8 0):=by
 induction n with
 | zero=>simp
 | succ n ih=>rw[List.replicate_succ,List.flatMap_cons,ih,B6,Nat.add_mul,Nat.one_mul,Nat.add_comm,List.replicate_append_replicate]
attribute [irreducible] zsec
theorem zS(N:Nat):madeCells (Array.replicate 64 (.int .u8 0)) N=(List.replicate N (.int .u8 0)).toArray:=by
 have:(madeCells (Array.replicate 64 (.int .u8 0)) N).toList=List.replicate N (.int .u8 0):=by
  rw[List.eq_replicate_iff];refine⟨by simp[madeCells],λb hb=>?_⟩;simp only[madeCells,Array.toList_map,List.mem_map] at hb;obtain⟨i,_,rfl⟩:=hb;have j:i % 64<64:=Nat.mod_lt _ (by decide);simp[j]
 rw[<- this,Array.toArray_toList]
theorem x6(n:Nat)(K:n<=4096)(w:World):(Instr.makeSlice 46 (.int .i64 n) (.int .i64 n)).run prog w = .ok (.slice (some ⟨w.heap.size,0,none⟩) n n) (w.alloc (.cells ((List.replicate n zsec).flatMap u8s).toArray 243)):=by
 have I:(prog.info? 243).map (λi=>(i.zero,i.size,i.bytes))=some (some (.agg (Array.replicate 64 (.int .u8 0))),64,64):=by kernel_rfl
 obtain⟨i,h1,x,j,D⟩:=info_parts I;have:=run_makeSlice (P:=prog) (w:=w) 46 243 i _ underlying46 h1 x .i64 .i64 n n (by omega) (Int.le_refl _) (by rw[j];simp;omega) (by rw[D];omega) (by omega);rw[this,j,Int.toNat_natCast,nZ];have J:(Value.agg (Array.replicate 64 (.int .u8 0))).cells=Array.replicate 64 (.int .u8 0):=rfl;rw[J,zS]
theorem B7(a:Int)(w:World)(m:DiskM)(d:DiskD)(h:DK w m d):
  Calls prog 308 #[.pointer (some ⟨m.g,0,none⟩),.int .i64 a] w λe w'=>e = .returned (.bool (decide (0<=a) && decide (a<d.sec.length)))/\w'=w:=by
 obtain⟨A,cap,I,_⟩:=Sn.own h.sec;have D:=h.blk.cell 0;simp only[eE,jf,jg,I] at D;rcases jb (decide (0<=a)) with j|j <;> rcases jb (decide (a<d.sec.length)) with x|x
 all_goals
  go_enter func308,ntmps308
  go_wp2_with fail
  go_ret;refine⟨?_,rfl⟩
  first|rfl|(rw[j];rfl)|(rw[j,x];rfl)
def uD(w:World)(n:Nat):DiskM:={ g:=w.heap.size+4,sv:=.slice (some ⟨w.heap.size,0,none⟩) n n,ov:=.slice none 0 0,bl:=w.heap.size+1,bf:=w.heap.size+2,bc:=w.heap.size+3,fv:=λ_=>none,cv:=λ_=>none }
theorem NP(n:Nat)(w:World)(_:0<=n)(V:n<=4096):
  Calls prog 39 #[.int .i64 n] w λe w'=>∃ m,e = .returned (.pointer (some ⟨m.g,0,none⟩))/\DK w' m (eT n)/\Below w.heap.size w w'/\∀ k∈aX m,w.heap.size<=k:=by
 have a4:∀(t:TypeId) (w:World),(Instr.makeMap t none).run prog w = .ok (.map (some w.heap.size)) (w.alloc (.map #[] 0)):=λt w=>run_makeMap t w
 have a5:∀ w,(Instr.makeSlice 46 (.int .i64 n) (.int .i64 n)).run prog w = .ok (.slice (some ⟨w.heap.size,0,none⟩) n n) (w.alloc (.cells ((List.replicate n zsec).flatMap u8s).toArray 243)):=x6 n V;have a0:max (n:Int) 0=n:=by omega
 have a1:min (n:Int) 4096=n:=by omega
 have a2:(0:Int)<=n:=by omega
 have a3:(n:Int)<=4096:=by omega
 go_enter func39,ntmps39
 go_wp2_with fail
 go_ret;obtain⟨J,j⟩:=je (w.alloc (.cells ((List.replicate n zsec).flatMap u8s).toArray 243));have s1:J.heap.size=w.heap.size+1:=by rw[j];simp
 have b1:J.heap[w.heap.size]? = some (.cells ((List.replicate n zsec).flatMap u8s).toArray 243 (0,0)):=by rw[j];exact heap_alloc_new w _
 have B1:Below w.heap.size w J:=by rw[j];exact(ji _ w).alloc (ja _) _
 rw[<- j];clear j;obtain⟨w2,x⟩:=je (J.alloc (.map #[] 0));have u2:UM w2 (w.heap.size+1) 0 (λ_=>none):=by rw[x];exact UM.madeAt J _ s1
 have s2:w2.heap.size=w.heap.size+2:=by rw[x];simp[s1]
 have B2:Below J.heap.size J w2:=by rw[x];exact(ji _ _).alloc (ja _) _
 rw[<- x];clear x;obtain⟨w3,D⟩:=je (w2.alloc (.map #[] 0));have u3:UM w3 (w.heap.size+2) 0 (λ_=>none):=by rw[D];exact UM.madeAt w2 _ s2
 have s3:w3.heap.size=w.heap.size+3:=by rw[D];simp[s2]
 have B3:Below w2.heap.size w2 w3:=by rw[D];exact(ji _ _).alloc (ja _) _
 rw[<- D];clear D;obtain⟨K,I⟩:=je (w3.alloc (.map #[] 0));have u4:UM K (w.heap.size+3) 0 (λ_=>none):=by rw[I];exact UM.madeAt w3 _ s3
 have s4:K.heap.size=w.heap.size+4:=by rw[I];simp[s3]
 have Z:Below w3.heap.size w3 K:=by rw[I];exact(ji _ _).alloc (ja _) _
 rw[<- I];clear I;have U:∀ o,Below K.heap.size K (K.alloc o):=λo=>(ji _ _).alloc (ja _) _
 have R:=aA B3 Z;have O:=aA B2 R;refine⟨uD w n,rfl,⟨?_,⟨?_,.inr ⟨w.heap.size,n,((List.replicate n zsec).flatMap u8s).toArray,by simp[uD,eT],j0 _,?_,?_⟩⟩,⟨rfl,.inl ⟨rfl,rfl⟩⟩,?_,?_,?_,?_,λ_ _=>rfl,λ_ _=>rfl,?_⟩,aA B1 (aA O (U _)),?_⟩
 ·exact Blk.newAt K 151 (eE (uD w n) (eT n)) _ s4
 ·show((List.replicate n zsec).flatMap u8s).length=(List.replicate n zsec).length*64;rw[nZ];simp
 ·exact((aA O (U _)).block w.heap.size (by omega)).trans b1
 ·refine⟨by simp[eT],by unfold maxLen;omega,?_,?_⟩
  ·rw[nZ];simp
  ·show List.take ((List.replicate n zsec).length*64) _=(List.replicate n zsec).flatMap u8s;rw[nZ];simp
 ·show UM _ _ _ (eJ []);rw[uC];exact(u2.keep R).keep (U _)
 ·exact(u3.keep Z).keep (U _)
 ·exact u4.keep (U _)
 ·simp[aX,uD,Value.ownBlock]
 ·refine⟨λs hs=>?_,λp hp=>?_,?_,ja _,ja _,j0 _,λk cs h=>by cases h⟩
  ·obtain rfl:=(List.mem_replicate.1 hs).2;exact iJ
  ·cases hp
  ·simp[eT];omega
 ·intro k hk;simp[aX,uD,Value.ownBlock] at hk;omega
section
variable {P : Program}
theorem bld{ops:Array Oper}{rest:List Oper}{o:Oper}{a:Act}{w:World}{Q:Exit->Act->World->Prop}(ty:TypeId)(parts:Array (Nat×Operand))(I:o.op = .build ty parts)(J:Region.wanted o (yielded ops a.tmps)=true)
  {vs:List (Nat×Value)} {cells:Array Value} (j:(parts.toList.map fun(i,x)=>(i,a.eval x))=vs) (hb:P.built ty vs=some cells)
  (h:wpList P ops Q rest (a.put o.dst (.agg cells)) w):wpList P ops Q (o :: rest) a w:=
 wpList_step λK D=>by
  rw[jP J];rw[<- Array.toList_map] at j;unfold Oper.wp;have hrun:(execOp a.eval o).run P w = .ok (.value (.agg cells)) w:=by
   unfold execOp;simp only[I,Sem.run_bind,run_build w ty _ cells (by rw[j];exact hb),Result.andThen_ok];rfl
  rw[hrun,Oper.upon_value];exact D _ _ h
end
theorem tI:prog.built 243 []=some z64:=by unfold z64;kernel_rfl
def jJ(d:DiskD)(a:Int):Bool:=decide (0<=a) && decide (a<d.sec.length)
def lA(c:Int):Value:=.iface 29 (.int .i64 c)
def uE(c a:Int):Value:=.iface 145 (.agg #[.int .i64 c,.int .i64 a])
def rdE(d:DiskD)(a:Int):Value:=if d.down then lA 12 else if jJ d a then .nilIface else uE 15 a
def rdS(d:DiskD)(a:Int):List Int:=if d.down then zsec else if jJ d a then rdD d a else zsec
theorem r8(z:Int)(w:World):Calls prog 38 #[.int .i64 15,.int .i64 z] w λe w'=>e = .returned (uE 15 z)/\w'=w:=by
 go_enter func38,ntmps38
 go_wp2_with fail
 go_ret;exact⟨rfl,rfl⟩
theorem pP:z64=(u8s zsec).toArray:=by rw[B6];unfold z64 u8s;simp
theorem eK{α:Type}(f:α->List Value)(s:Nat):∀(l:List α),(∀ x∈l,(f x).length=s)->∀ k (hk:k<l.length),((l.flatMap f).drop (k*s)).take s=f l[k]
 | [],_,k,hk=>by simp at hk
 | x :: l,h,0,_=>by
  have j:=h x (by simp);simp only[List.flatMap_cons,Nat.zero_mul,List.drop_zero,List.getElem_cons_zero];rw[List.take_append_of_le_length (by omega),List.take_of_length_le (by omega)]
 | x :: l,h,k+1,hk=>by
  have j:=h x (by simp);simp only[List.flatMap_cons,List.getElem_cons_succ];rw[Nat.add_mul,Nat.one_mul,List.drop_append,List.drop_eq_nil_of_le (by omega),List.nil_append,j,Nat.add_sub_cancel];exact eK f s l (λy hy=>h y (by simp[hy])) k (by simpa using hk)
theorem NQ{w:World}{A:Option Addr}{cap:Nat}{l:List (List Int)}(h:Sn w 64 (.slice A l.length cap) l.length (l.flatMap u8s))(j:∀ s∈l,Sec s)(k:Nat)(x:k<l.length):
  ∃ b off,A=some ⟨b,off,none⟩/\w.rangeAt b (off+k*64) (u8s l[k]):=by
 obtain⟨b,off,rfl,D⟩:=h.range k x;rw[eK u8s 64 l (λs hs=>aF (j s hs)) k x] at D;exact⟨b,off,rfl,D⟩
theorem NR{w:World}{A:Option Addr}{cap:Nat}{l:List (Int×List Int)}(h:Sn w 65 (.slice A l.length cap) l.length (l.flatMap wrC))(j:∀ p∈l,Sec p.2)(k:Nat)(x:k<l.length):
  ∃ b off,A=some ⟨b,off,none⟩/\w.rangeAt b (off+k*65) (wrC l[k]):=by
 obtain⟨b,off,rfl,D⟩:=h.range k x;rw[eK wrC 65 l (λs hs=>fL (j s hs)) k x] at D;exact⟨b,off,rfl,D⟩
theorem NS{d:DiskD}{a:Int}(h:d.opn.filter (λp=>p.1 == a)=[]):rdD d a=d.sec.getD a.toNat []:=by
 unfold rdD;rw[h];rfl
theorem NT{d:DiskD}{a:Int}{p:Int×List Int}(h:(d.opn.filter (λp=>p.1 == a)).getLast? = some p):rdD d a=p.2:=by
 unfold rdD;rw[h];rfl
theorem Y9:∀ w,(zeroValue 3).run prog w = .ok (.int .i64 0) w:=λw=>by kernel_rfl
theorem x7(a:Int)(w:World)(m:DiskM)(d:DiskD)(h:DK w m d)(ha:aD a):
  Calls prog 261 #[.pointer (some ⟨m.g,0,none⟩),.int .i64 a] w λe w'=>e = .returned (.tuple #[.agg (u8s (rdS d a)).toArray,rdE d a])/\Below w.heap.size w w':=by
 have d2:=h.blk.lt;have H:=jz h;have a7:=h.blk.cell 3;simp only[eE,jf,jh,jg] at a7;have HZ:=jz pP;clear h;have c3:Hid (z64.all (·.oneCell')=true):=jz (by rw[pP];exact dI _);have b1:z64.size=64:=cS;have HU:Hid (∀ s,Sec s->(prog.info? 243).map (·.size)=some (u8s s).length):=jz (λs hs=>by rw[aF hs];kernel_rfl);have c4:Hid (Sec zsec):=jz iJ;have a3:Hid (Blk (w.alloc (.cells z64 243)) w.heap.size 243 z64):=jz (Blk.new w _ _);have D:Hid (Below w.heap.size w (w.alloc (.cells z64 243))):=jz ((ji _ _).alloc (ja _) _);cases hd:d.down with
 | true=>
  rw[hd] at a7;have HF:Hid (rdS d a=zsec/\rdE d a=lA 12):=jz (by unfold rdS rdE;rw[hd];exact⟨rfl,rfl⟩);clear hd;go_enter func261,ntmps261
  go_wp2_with (first
   | (refine al 243 z64 rfl rfl dG ?_)
   | (refine bld 243 #[] rfl rfl rfl tI ?_)
   | (refine aO 243 (.tmp 4) (.tmp 16) rfl rfl rfl rfl a3 (by rw[b1];kernel_rfl) rfl c3 ?_;intro w3 I J _ _;have U:=jz I;have V:=jz J;clear I J))
  have hr:w3.rangeAt w.heap.size 0 (u8s zsec):=by have h:=U.range;rw[HZ.out,jt] at h;exact h
  exact bodyPost_ret (aC rfl _ rfl hr underlying243 rfl (HU _ c4)) rfl ⟨by rw[HF.out.1,HF.out.2];rfl,D.trans V⟩
 | false=>
  rw[hd] at a7;have R:=jz (λO (hb:Below w.heap.size w O)=>B7 a O m d (H.out.keep hb));cases hh:jJ d a with
  | false=>
   have HF:Hid (rdS d a=zsec/\rdE d a=uE 15 a):=jz (by unfold rdS rdE;rw[hd,hh];exact⟨rfl,rfl⟩);have HH:Hid ((decide (0<=a) && decide (a<d.sec.length))=false):=jz hh;rw[HH.out] at R;have c6:=jz (λO=>r8 a O);clear hd hh;go_enter func261,ntmps261
   go_wp2_with (first
    | (go_at_call 308;refine(R _ D).mono ?_;rintro e O ⟨rfl,K⟩;rw[K];clear K)
    | (go_at_call 38;refine(c6 _).mono ?_;rintro e O ⟨rfl,K⟩;rw[K];clear K)
    | (refine al 243 z64 rfl rfl dG ?_)
    | (refine bld 243 #[] rfl rfl rfl tI ?_)
    | (refine aO 243 (.tmp 4) (.tmp 22) rfl rfl rfl rfl a3 (by rw[b1];kernel_rfl) rfl c3 ?_;intro w3 I J _ _;have U:=jz I;have V:=jz J;clear I J))
   have hr:w3.rangeAt w.heap.size 0 (u8s zsec):=by have h:=U.range;rw[HZ.out,jt] at h;exact h
   exact bodyPost_ret (aC rfl _ rfl hr underlying243 rfl (HU _ c4)) rfl ⟨by rw[HF.out.1,HF.out.2];rfl,D.trans V⟩
  | true=>
   have a8:0<=a/\a<d.sec.length:=by unfold jJ at hh;simpa using hh
   have HF:Hid (rdS d a=rdD d a/\rdE d a = .nilIface):=jz (by unfold rdS rdE;rw[hd,hh];exact⟨rfl,rfl⟩);have HH:Hid ((decide (0<=a) && decide (a<d.sec.length))=true):=jz hh;rw[HH.out] at R;have b7:Hid (Sec (rdD d a)):=jz (I0 H.out.ok a a8.1 a8.2);have a4:=jz (λO (hb:Below w.heap.size w O)=>UM.look underlying146 (H.out.last.keep hb) (Y9 O) ha);have a1:=jz (B0 d.opn a);have d0:=H.out.blk.cell 2;simp only[eE,jf,jh,jg] at d0;have c2:Hid (∀ s,Sec s->(z64.size=(u8s s).toArray.size)/\((u8s s).toArray.all (·.oneCell')=true)/\(prog.info? 243).map (·.size)=some (u8s s).toArray.size):=jz (λs hs=>⟨by rw[b1];simp[aF hs],dI s,by simp only[js,aF hs];kernel_rfl⟩);clear hd hh;cases hl:eJ d.opn a with
   | none=>
    rw[hl] at a4 a1;have a5:Hid (rdD d a=d.sec.getD a.toNat []):=jz (NS a1);obtain⟨A0,c5,b0,_⟩:=Sn.own H.out.sec;obtain⟨k,rfl⟩:=Int.eq_ofNat_of_zero_le a8.1;have hk:k<d.sec.length:=by omega
    have Z:=Sn.own H.out.sec;rw[b0] at Z;obtain⟨b,off,rfl,hr⟩:=NQ Z H.out.ok.sec k hk;have c7:=H.out.blk.cell 0;simp only[eE,jf,jh,jg,b0] at c7;have a0:Hid (∀ O,Below w.heap.size w O->O.rangeAt b (off+k*64) (u8s (rdD d k))):=jz (λO hb=>by
     rw[a5.out,Int.toNat_natCast,show d.sec.getD k []=d.sec[k] by simp[jn,hk]]
     exact λj u hj=>j9 hb (hr j u hj))
    have d1:=a4.out _ D.out;clear hr Z hl b0;obtain⟨S,hS⟩:=je (u8s (rdD d k));have x:=jz (c2 _ b7);rw[<- hS] at a0 x;have a6:=jz hS;clear hS;go_enter func261,ntmps261
    go_wp2_with (first
     | (go_at_call 308;refine(R _ D).mono ?_;rintro e O ⟨rfl,K⟩;rw[K];clear K)
     | (refine al 243 z64 rfl rfl dG ?_)
     | (refine ld 243 _ rfl rfl rfl (a0 _ D) underlying243 rfl (by simpa using x.out.2.2) ?_)
     | (refine aO 243 (.tmp 4) (.tmp 49) rfl rfl rfl rfl a3 x.out.2.2 x.out.1 x.out.2.1 ?_;intro w3 I J _ _;have U:=jz I;have V:=jz J;clear I J))
    have hr:w3.rangeAt w.heap.size 0 S:=by have h:=U.range;rw[jt] at h;exact h
    exact bodyPost_ret (aC rfl _ rfl hr underlying243 rfl (by simpa using x.out.2.2)) rfl ⟨by rw[HF.out.1,HF.out.2,<- a6.out];rfl,D.trans V⟩
   | some v=>
    rw[hl] at a4 a1;obtain⟨i,hi,rfl,a2⟩:=a1.out;have a5:Hid (rdD d a=d.opn[i].2):=jz (NT a2);obtain⟨A0,c5,a9,_⟩:=Sn.own H.out.opn;have Z:=Sn.own H.out.opn;rw[a9] at Z;obtain⟨b,off,rfl,hr⟩:=NR Z (λp hp=>(H.out.ok.opn p hp).2.2) i hi;have c9:=H.out.blk.cell 1;simp only[eE,jf,jh,jg,a9] at c9;have a0:Hid (∀ O,Below w.heap.size w O->O.rangeAt b (off+i*65+1) (u8s (rdD d a))):=jz (λO hb=>by
     rw[a5.out]
     exact λj u hj=>j9 hb (by have:=hr (j+1) u hj;rw[show off+i*65+1+j=off+i*65+(j+1) by omega];exact this))
    have d1:=a4.out _ D.out;have d5:(0:Int)<=i:=by omega
    have d7:(i:Int)<d.opn.length:=by omega
    clear hr Z hl a9 a2 a1;obtain⟨S,hS⟩:=je (u8s (rdD d a));have x:=jz (c2 _ b7);rw[<- hS] at a0 x;have a6:=jz hS;clear hS;go_enter func261,ntmps261
    go_wp2_with (first
     | (go_at_call 308;refine(R _ D).mono ?_;rintro e O ⟨rfl,K⟩;rw[K];clear K)
     | (refine al 243 z64 rfl rfl dG ?_)
     | (refine ld 243 _ rfl rfl rfl (a0 _ D) underlying243 rfl (by simpa using x.out.2.2) ?_)
     | (refine aO 243 (.tmp 4) (.tmp 42) rfl rfl rfl rfl a3 x.out.2.2 x.out.1 x.out.2.1 ?_;intro w3 I J _ _;have U:=jz I;have V:=jz J;clear I J))
    have hr:w3.rangeAt w.heap.size 0 S:=by have h:=U.range;rw[jt] at h;exact h
    exact bodyPost_ret (aC rfl _ rfl hr underlying243 rfl (by simpa using x.out.2.2)) rfl ⟨by rw[HF.out.1,HF.out.2,<- a6.out];rfl,D.trans V⟩
end
section
open Go.RowKit
theorem uF(j I D new:List Value)(O:I.length=new.length):
  ((new.zipIdx j.length).foldl (fun(cs:Array Value) (x:Value×Nat)=>cs.setIfInBounds x.2 x.1) (j++I++D).toArray)=(j++new++D).toArray:=by
 apply Array.ext_getElem?;intro i;rw[mY];simp only[jf,js,jj];split
 ·rename_i h;rw[List.append_assoc,jx (by omega),jy (by omega)]
 ·rename_i h;rcases jo i j.length with h1|h1
  ·rw[List.append_assoc,jy h1,List.append_assoc,jy h1]
  ·rw[List.append_assoc,List.append_assoc,jx h1,jx h1];rcases jo (i-j.length) new.length with J|J
   ·have:¬i<j.length+I.length+D.length:=λK=>h ⟨h1,by omega,K⟩
    omega
   ·rw[jx (by omega),jx (by omega),O]
section
variable {P : Program} {ops : Array Oper} {Q : Exit -> Act -> World -> Prop} {S : World -> Prop} {a : Act} {w : World} {listed : Array Bool} {fuel : Nat}
theorem SF(i:Nat)(t:TypeId)(parts:Array (Nat×Operand))(dst:Option Tmp){vs:List (Nat×Value)}{cells:Array Value}(hd:(ops[i]?).map (λo=>(o.op,o.dst))=some (.build t parts,dst))(O:(ops[i]?).map (λo=>Region.wanted o (yielded ops a.tmps))=some true)
  (hs:Region.noSelect ops=true) (I:Region.free .any ops listed i=true) (K:(Region.ready .any ops listed).contains i=true)
  (D:∀ c a w,Q (.panic c) (a.put dst (.agg cells)) w->Q (.panic c) a w) (j:(parts.toList.map fun(i,x)=>(i,a.eval x))=vs) (hb:P.built t vs=some cells) (hS:S w)
  (h:wpAnyH P .any ops Q S fuel (listed.setIfInBounds i true) (a.put dst (.agg cells)) w):wpAnyH P .any ops Q S (fuel+1) listed a w:=
 IU i _ dst _ hd O hs I K D (λo J w _=>by
  rw[<- Array.toList_map] at j
  unfold execOp
  simp only[J,Sem.run_bind,run_build w t _ cells (by rw[j];exact hb),Result.andThen_ok]
  rfl) hS h
theorem KE(s:Nat)(Z:Array Value)(cs:List Value)(x:Z.size=s)(D:cs.length=s):Instr.fill (λi=>some (i*s,s)) Z [(0,.agg cs.toArray)]=some cs.toArray:=by
 have h1:(Value.agg cs.toArray).cells=cs.toArray:=rfl;have j:=uF [] Z.toList [] cs (by simp[x,D]);simp only[List.nil_append,List.append_nil,List.length_nil,Array.toArray_toList] at j;simp[Instr.fill,h1,D];exact⟨Nat.le_of_eq x.symm,j⟩
theorem qS{t e s bytes:Nat}(T:SlT P t e s bytes)(cs:List Value)(D:cs.length=s)(hs:s<=1000)(w:World):(Instr.buildSlice t 1 #[(0,.agg cs.toArray)]).run P w = .ok (.slice (some ⟨w.heap.size,0,none⟩) 1 1) (w.alloc (.cells cs.toArray e)):=by
 obtain⟨i,z,hi,I,j,x,J⟩:=T.hi;have:=T.hs;refine run_buildSlice w t e 1 _ cs.toArray i z T.ht hi I (by rw[j];omega) (by rw[j];omega) ?_;rw[j];exact KE s _ cs (by simp) D
theorem NU{D:List Nat}(i:Nat){t e s bytes:Nat}(T:SlT P t e s bytes)(x:Operand)(dst:Option Tmp)(hd:(ops[i]?).map (λo=>(o.op,o.dst))=some (.buildSlice t 1 #[(0,x)],dst))(K:(ops[i]?).map (λo=>Region.wanted o (yielded ops a.tmps))=some true)
  {cs:List Value} (O:a.eval x = .agg cs.toArray) (I:cs.length=s) (j:s<=1000) (hS:S (w.alloc (.cells cs.toArray e)))
  (h:wpAnyH P .any ops Q S fuel (listed.setIfInBounds i true) (a.put dst (.slice (some ⟨w.heap.size,0,none⟩) 1 1)) (w.alloc (.cells cs.toArray e))) (hs:AllReadyH P .any ops Q S fuel listed a w D):AllReadyH P .any ops Q S fuel listed a w (i :: D):=
 BU i _ dst _ _ hd K (λo J=>by
  have hrun:=qS T cs I j w
  unfold execOp
  simp only[J,Sem.run_bind,List.map_toArray,List.map_cons,List.map_nil,O,hrun,Result.andThen_ok]
  rfl) hS h hs
theorem VR{rs:List Nat}(i:Nat){t e s bytes:Nat}(T:SlT P t e s bytes)(p q:Operand)(dst:Option Tmp)(hd:(ops[i]?).map (λo=>(o.op,o.dst))=some (.call { callee:=.builtin .append,args:=#[p,q],argTypes:=#[t,t] },dst))(Z:(ops[i]?).map (λo=>Region.wanted o (yielded ops a.tmps))=some true)
  {base n m:Nat} {v x:Value} {xs j:List Value} (hv:a.eval p=v) (R:w.ownsRow base e s v n xs) (a0:a.eval q=x) (hx:Sn w s x m j)
  (h1:∀ u∈j,u.oneCell'=true) (U:n+m<=maxLen) (D:(n+m)*bytes<=140737488355328) (I:base<=w.heap.size)
  (h:∀ v' w',w'.ownsRow base e s v' (n+m) (xs++j)->w.grownBy w' v.ownBlock->(v'.ownBlock=v.ownBlock\/v'.ownBlock=some w.heap.size)->S w'/\(S w'->wpAnyH P .any ops Q S fuel (listed.setIfInBounds i true) (a.put dst v') w')) (hs:AllReadyH P .any ops Q S fuel listed a w rs):AllReadyH P .any ops Q S fuel listed a w (i :: rs):=by
 cases ho:ops[i]? with
 | none=>rw[ho] at hd;cases hd
 | some o=>
  have J:=hd;rw[ho] at J;simp only[Option.map_some,Option.some.injEq,Prod.mk.injEq] at J;obtain⟨v',w',hrun,h2,h3,h4⟩:=iE (ty:=o.type) T R hx h1 U D I;obtain⟨h5,h6⟩:=h v' w' h2 h3 h4;obtain⟨V,O⟩:=J;rw[ho] at Z;simp only[Option.map_some,Option.some.injEq] at Z;refine AllReadyH.cons ho (λK hK=>?_) hs;rw[jP Z];unfold Oper.wp execOp;simp only[V,resolve,invoke,builtin,Sem.run_bind,Sem.run_pure,Result.andThen_ok,List.map_toArray,List.map_cons,List.map_nil,hv,a0,hrun];rw[Oper.upon_value,O];exact hK _ _ h5 h6
theorem zT{D:List Nat}(i:Nat)(x:Op)(dst:Option Tmp)(w2:World)(hd:(ops[i]?).map (λo=>(o.op,o.dst))=some (x,dst))(j:(ops[i]?).map (λo=>Region.wanted o (yielded ops a.tmps))=some true)
  (hrun:∀ o:Oper,o.op=x->(execOp a.eval o).run P w = .ok .skip w2) (hS:S w2)
  (h:wpAnyH P .any ops Q S fuel (listed.setIfInBounds i true) (a.put dst undef) w2) (hs:AllReadyH P .any ops Q S fuel listed a w D):AllReadyH P .any ops Q S fuel listed a w (i :: D):=by
 cases ho:ops[i]? with
 | none=>rw[ho] at hd;cases hd
 | some o=>
  rw[ho] at hd j;simp only[Option.map_some,Option.some.injEq,Prod.mk.injEq] at hd j;obtain⟨I,J⟩:=hd;subst J;refine AllReadyH.cons ho (λK O=>?_) hs;rw[jP j];unfold Oper.wp;rw[hrun o I];exact O _ _ hS (λ_=>h)
theorem X7{J:List Nat}(i:Nat){tM O:TypeId}(p q:Operand)(dst:Option Tmp)(w2:World){vm vk:Value}(hd:(ops[i]?).map (λo=>(o.op,o.dst))=some (.call { callee:=.builtin .delete,args:=#[p,q],argTypes:=#[tM,O] },dst))(I:(ops[i]?).map (λo=>Region.wanted o (yielded ops a.tmps))=some true)
  (V:a.eval p=vm) (U:a.eval q=vk) (hrun:∀ ty,(Builtin.delete_ #[tM,O] ty #[vm,vk]).run P w = .ok (.tuple #[]) w2) (hS:S w2)
  (h:wpAnyH P .any ops Q S fuel (listed.setIfInBounds i true) (a.put dst (.tuple #[])) w2) (hs:AllReadyH P .any ops Q S fuel listed a w J):AllReadyH P .any ops Q S fuel listed a w (i :: J):=by
 cases ho:ops[i]? with
 | none=>rw[ho] at hd;cases hd
 | some o=>
  have j:=hd;rw[ho] at j;simp only[Option.map_some,Option.some.injEq,Prod.mk.injEq] at j;obtain⟨D,x⟩:=j;rw[ho] at I;simp only[Option.map_some,Option.some.injEq] at I;refine AllReadyH.cons ho (λK R=>?_) hs;rw[jP I];unfold Oper.wp execOp;simp only[D,resolve,invoke,builtin,Sem.run_bind,Sem.run_pure,Result.andThen_ok,List.map_toArray,List.map_cons,List.map_nil,V,U,hrun o.type];rw[Oper.upon_value,x];exact R _ _ hS (λ_=>h)
theorem WB{j:List Nat}(i:Nat){tM:TypeId}(m p q:Operand)(dst:Option Tmp)(w2:World){vm vk x:Value}(hd:(ops[i]?).map (λo=>(o.op,o.dst))=some (.mapUpdate tM m p q,dst))(O:(ops[i]?).map (λo=>Region.wanted o (yielded ops a.tmps))=some true)
  (D:a.eval m=vm) (K:a.eval p=vk) (J:a.eval q=x) (hrun:(Instr.mapUpdate tM vm vk x).run P w = .ok () w2) (hS:S w2)
  (h:wpAnyH P .any ops Q S fuel (listed.setIfInBounds i true) (a.put dst undef) w2) (hs:AllReadyH P .any ops Q S fuel listed a w j):AllReadyH P .any ops Q S fuel listed a w (i :: j):=
 zT i _ dst w2 hd O (λo I=>by
  unfold execOp
  simp only[I,Sem.run_bind,D,K,J,hrun,Result.andThen_ok]
  rfl) hS h hs
end
end
end Go.Proofs.YtiaigidbcljblaaGreatDoor
