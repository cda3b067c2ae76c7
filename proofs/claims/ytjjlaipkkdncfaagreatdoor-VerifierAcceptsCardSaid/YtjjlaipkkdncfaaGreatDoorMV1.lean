import Derived.Test.YtjjlaipkkdncfaaGreatDoorRows
import Derived.WalkKit
import Derived.WalkSpells
import Derived.WalkLawsBesides
import Derived.Lib.Hide
import Derived.Maps.AppendAt
import Derived.OwnWalk
import Derived.Deep.MidRow
import Derived.Deep.RegionHeld3
import Derived.Laws.Slices
import Derived.Deep.QuietTactic
import Derived.Laws.Cover3
import Derived.Laws.Bits64b
import Derived.Laws.IdiomCopy
import Derived.Laws.ResultCell
import Derived.Maps.OwnSet
import Derived.Great.BuildSlice
set_option linter.unusedSimpArgs false
set_option maxRecDepth 100000
set_option maxHeartbeats 40000000
namespace Go.Proofs.YtjjlaipkkdncfaaGreatDoor
open Go.Proofs.Tryz
section
open Go.RowKit
def Sl(w:World)(v:Value)(xs:List Value):Prop:=
 ∃(A:Option Addr) (cap:Nat),v = .slice A xs.length cap/\xs.length<=cap/\(0<xs.length->∃ b off,A=some ⟨b,off,none⟩/\∀ j u,xs[j]? = some u->w.cell? ⟨b,off+j,none⟩=some u)
theorem eQ{w:World}{a:Addr}{v:Value}(h:w.cell? a=some v):a.block<w.heap.size:=World.block_lt_of_cell? w a h
theorem Below.cell'{w w':World}(h:Below w.heap.size w w'){a:Addr}{v:Value}(D:w.cell? a=some v):w'.cell? a=some v:=by
 rw[h.cell (eQ D)];exact D
theorem dG{B:Nat}{a w:World}(h:Below B a w)(n:Nat):Below B a (w.drewN n):=⟨h.os,h.tape,h.output,h.size,h.block⟩
theorem aB{a b c:World}(h:Below a.heap.size a b)(k:Below b.heap.size b c):Below a.heap.size a c:=h.trans (k.mono h.size)
theorem TT{a b:World}(h:Below a.heap.size a b)(o:Obj):Below a.heap.size a (b.alloc o):=h.alloc h.size o
theorem Sl.keep{w w':World}{v:Value}{D:List Value}(h:Sl w v D)(K:∀ a u,w.cell? a=some u->w'.cell? a=some u):Sl w' v D:=by
 obtain⟨A,cap,rfl,I,R⟩:=h;refine⟨A,cap,rfl,I,λO=>?_⟩;obtain⟨b,off,rfl,h⟩:=R O;exact⟨b,off,rfl,λj u J=>K _ _ (h j u J)⟩
theorem Sl.below{w w':World}{v:Value}{D:List Value}(h:Sl w v D)(hb:Below w.heap.size w w'):Sl w' v D:=
 h.keep λ_ _ I=>Below.cell' hb I
theorem Sl.alloc{w:World}{v:Value}{D:List Value}(h:Sl w v D)(o:Obj):Sl (w.alloc o) v D:=
 h.below ((Below.refl _ _).alloc (Nat.le_refl _) o)
theorem Sl.drew{w:World}{v:Value}{D:List Value}(h:Sl w v D):Sl w.drew v D:=h
theorem Sl.drewN{w:World}{v:Value}{D:List Value}(h:Sl w v D)(n:Nat):Sl (w.drewN n) v D:=h
theorem Sl.nil(w:World)(A:Option Addr)(cap:Nat):Sl w (.slice A 0 cap) []:=⟨A,cap,rfl,Nat.zero_le _,λh=>absurd h (by simp)⟩
theorem TU{a b:ByteArray}(h:a=b):(a.toList == b.toList)=true:=by subst h;simp
theorem TV{a b:ByteArray}(h:a≠b):(a.toList == b.toList)=false:=by
 rw[beq_eq_false_iff_ne,ByteArray.toList_eq,ByteArray.toList_eq];exact λe=>h (ByteArray.ext (Array.toList_inj.1 e))
theorem P9(a b:ByteArray):(a.toList == b.toList)=decide (a=b):=by
 by_cases h:a=b
 ·rw[TU h];simp[h]
 ·rw[TV h];simp[h]
def yU(l:List Int):List Value:=l.map (Value.int .i64)
def Sn(w:World)(s:Nat)(v:Value)(n:Nat)(xs:List Value):Prop:=
 ∃(A:Option Addr) (cap:Nat),v = .slice A n cap/\n<=cap/\xs.length=n*s/\(0<n->∃ b off,A=some ⟨b,off,none⟩/\∀ j u,xs[j]? = some u->w.cell? ⟨b,off+j,none⟩=some u)
theorem Sn.keep{w w':World}{s n:Nat}{v:Value}{D:List Value}(h:Sn w s v n D)(K:∀ a u,w.cell? a=some u->w'.cell? a=some u):Sn w' s v n D:=by
 obtain⟨A,cap,rfl,I,O,U⟩:=h;refine⟨A,cap,rfl,I,O,λR=>?_⟩;obtain⟨b,off,rfl,h⟩:=U R;exact⟨b,off,rfl,λj u J=>K _ _ (h j u J)⟩
theorem Sn.below{w w':World}{s n:Nat}{v:Value}{D:List Value}(h:Sn w s v n D)(hb:Below w.heap.size w w'):Sn w' s v n D:=
 h.keep λ_ _ I=>Below.cell' hb I
theorem Sn.alloc{w:World}{s n:Nat}{v:Value}{D:List Value}(h:Sn w s v n D)(o:Obj):Sn (w.alloc o) s v n D:=
 h.below ((Below.refl _ _).alloc (Nat.le_refl _) o)
theorem Sn.sl{w:World}{n:Nat}{v:Value}{D:List Value}(h:Sn w 1 v n D):Sl w v D:=by
 obtain⟨A,cap,rfl,I,K,J⟩:=h;have:D.length=n:=by omega
 subst this;exact⟨A,cap,rfl,I,J⟩
theorem Sl.sn{w:World}{v:Value}{D:List Value}(h:Sl w v D):Sn w 1 v D.length D:=by
 obtain⟨A,cap,rfl,I,J⟩:=h;exact⟨A,cap,rfl,I,by omega,J⟩
theorem Sn.own{w:World}{base e s n:Nat}{v:Value}{O:List Value}(h:w.ownsRow base e s v n O):Sn w s v n O:=by
 obtain⟨K,h|⟨g,cap,I,rfl,hb,hg,U,V,R,J⟩⟩:=h
 ·obtain⟨rfl,rfl⟩:=h;exact⟨none,0,rfl,Nat.le_refl _,K,λh=>absurd h (by omega)⟩
 ·refine⟨_,cap,rfl,U,K,λZ=>⟨g,0,rfl,λj u D=>?_⟩⟩;rw[cell_of_row w g (0+j) I e (0,0) hg,Nat.zero_add];rw[<- J,List.getElem?_take] at D;split at D
  ·simpa using D
  ·cases D
theorem Sn.new(w:World)(cs:Array Value)(t:TypeId)(s n:Nat)(hs:cs.size=n*s):Sn (w.alloc (.cells cs t)) s (.slice (some ⟨w.heap.size,0,none⟩) n n) n cs.toList:=by
 refine⟨_,n,rfl,Nat.le_refl _,by simpa using hs,λ_=>⟨w.heap.size,0,rfl,λj u D=>?_⟩⟩;rw[cell_of_row _ w.heap.size (0+j) cs t (0,0) (heap_alloc_new w _),Nat.zero_add];simpa using D
theorem Sn.newAt(w:World)(cs:Array Value)(t:TypeId)(s n g:Nat)(hs:cs.size=n*s)(hg:w.heap.size=g):Sn (w.alloc (.cells cs t)) s (.slice (some ⟨g,0,none⟩) n n) n cs.toList:=by
 subst hg;exact Sn.new w cs t s n hs
theorem nC(w:World)(cs:Array Value)(e s cap base g:Nat)(hb:base<=w.heap.size)(hs:cs.size=cap*s)(D:cap<=maxLen)(hg:w.heap.size=g):(w.alloc (.cells cs e)).ownsRow base e s (.slice (some ⟨g,0,none⟩) 0 cap) 0 []:=by
 subst hg;exact World.ownsRow_made w cs cap hb D hs
theorem aE{w w':World}{base e s n:Nat}{v:Value}{J:List Value}(h:w.ownsRow base e s v n J)(hb:Below w.heap.size w w'):w'.ownsRow base e s v n J:=by
 refine⟨h.1,?_⟩;have I:=h.lt;rcases h.2 with K|⟨g,cap,D,rfl,hg,O,r⟩
 ·exact .inl K
 ·exact .inr ⟨g,cap,D,rfl,hg,by rw[hb.block g (I g rfl).2];exact O,r⟩
theorem aT{w:World}{base base' e s n:Nat}{v:Value}{I:List Value}(h:w.ownsRow base e s v n I)(hb:base'<=base):w.ownsRow base' e s v n I:=by
 refine⟨h.1,?_⟩;rcases h.2 with J|⟨g,cap,D,rfl,hg,r⟩
 ·exact .inl J
 ·exact .inr ⟨g,cap,D,rfl,Nat.le_trans hb hg,r⟩
structure SlT(P:Program)(t e s bytes:Nat):Prop where
 ht:P.underlying t=some (.slice e)
 hi:∃ i z,P.info? e=some i/\i.zero=some z/\i.size=s/\i.bytes=bytes/\z.cells.size=s
 hs:0<s
theorem SlT.mk'{P:Program}{t e s bytes:Nat}{z:Value}(ht:P.underlying t=some (.slice e))(h:(P.info? e).map (λi=>(i.zero,i.size,i.bytes))=some (some z,s,bytes))(K:z.cells.size=s)(hs:0<s):SlT P t e s bytes:=by
 obtain⟨i,h1,D,I,J⟩:=info_parts h;exact⟨ht,⟨i,z,h1,D,I,J,K⟩,hs⟩
section
variable {P : Program} {w : World}
theorem sF{t ty e s bytes:Nat}(T:SlT P t e s bytes){base n:Nat}{v:Value}{U:List Value}(D:w.ownsRow base e s v n U)(c:Nat):
  (Builtin.append_ #[t,t] ty #[v,.slice none 0 c]).run P w = .ok v w:=by
 obtain⟨i,z,hi,V,O,K,R⟩:=T.hi;rcases D.2 with ⟨rfl,rfl⟩|⟨g,cap,J,rfl,_,_,I,_⟩
 ·simp[Builtin.append_,run_underlying T.ht,sizeOf,typeInfo,hi,Builtin.lenOf,Builtin.firstCells]
 ·simp[Builtin.append_,run_underlying T.ht,sizeOf,typeInfo,hi,Builtin.lenOf,Builtin.firstCells,I,storeCells]
theorem sG{t ty e s bytes:Nat}(T:SlT P t e s bytes){base n:Nat}{v:Value}{U:List Value}(D:w.ownsRow base e s v n U)(a:Addr)(c:Nat):
  (Builtin.append_ #[t,t] ty #[v,.slice (some a) 0 c]).run P w = .ok v w:=by
 obtain⟨i,z,hi,V,O,K,R⟩:=T.hi;rcases D.2 with ⟨rfl,rfl⟩|⟨g,cap,J,rfl,_,_,I,_⟩
 ·simp[Builtin.append_,run_underlying T.ht,sizeOf,typeInfo,hi,Builtin.lenOf,Builtin.firstCells,loadCells,loadCellsFrom]
 ·simp[Builtin.append_,run_underlying T.ht,sizeOf,typeInfo,hi,Builtin.lenOf,Builtin.firstCells,I,storeCells,loadCells,loadCellsFrom]
theorem gL{t ty e s bytes:Nat}(T:SlT P t e s bytes){base n m:Nat}{v x:Value}{xs D:List Value}(I:w.ownsRow base e s v n xs)(hx:Sn w s x m D)
  (h1:∀ u∈D,u.oneCell'=true) (R:n+m<=maxLen) (J:(n+m)*bytes<=140737488355328) (K:base<=w.heap.size):
  ∃ v' w',(Builtin.append_ #[t,t] ty #[v,x]).run P w = .ok v' w'/\w'.ownsRow base e s v' (n+m) (xs++D)/\w.grownBy w' v.ownBlock/\(v'.ownBlock=v.ownBlock\/v'.ownBlock=some w.heap.size):=by
 obtain⟨A,c,rfl,a0,hl,O⟩:=hx;rcases Nat.eq_zero_or_pos m with rfl|hm
 ·have hn:D=[]:=List.eq_nil_of_length_eq_zero (by simpa using hl);subst hn;refine⟨v,w,?_,by simpa using I,World.grownBy.refl w _,.inl rfl⟩;cases A with
  | none=>exact sF T I c
  | some a=>exact sG T I a c
 ·obtain⟨b,off,rfl,hc⟩:=O hm;obtain⟨i,z,hi,hz,V,U,Z⟩:=T.hi;obtain⟨v',w',h2,h3,h4,_,h5⟩:=run_append_own_at (P:=P) w base t ty e i z s bytes T.ht hi hz V U Z T.hs v n xs I ⟨b,off,none⟩ m c D hl (λj u hj=>by
   have:=hc j u hj
   rw[Addr.add_lit];exact this) h1 R J K
  exact⟨v',w',h2,h3,h4,h5⟩
theorem app{ops:Array Oper}{rest:List Oper}{o:Oper}{a:Act}{Q:Exit->Act->World->Prop}{t e s bytes:Nat}(T:SlT P t e s bytes)(p q:Operand)
  (ho:o.op = .call { callee:=.builtin .append,args:=#[p,q],argTypes:=#[t,t] }) (hw:Region.wanted o (yielded ops a.tmps)=true)
  {base n m:Nat} {v x:Value} {V D:List Value} (hv:a.eval p=v) (O:w.ownsRow base e s v n V) (U:a.eval q=x) (hx:Sn w s x m D)
  (h1:∀ u∈D,u.oneCell'=true) (R:n+m<=maxLen) (I:(n+m)*bytes<=140737488355328) (J:base<=w.heap.size)
  (h:∀ v' w',w'.ownsRow base e s v' (n+m) (V++D)->w.grownBy w' v.ownBlock->(v'.ownBlock=v.ownBlock\/v'.ownBlock=some w.heap.size)->wpList P ops Q rest (a.put o.dst v') w'):
  wpList P ops Q (o :: rest) a w:=by
 refine wpList_step λK hK=>?_
 rw[if_pos hw];obtain⟨v',w',hrun,Z,h3,h4⟩:=gL (ty:=o.type) T O hx h1 R I J;unfold Oper.wp execOp;simp only[ho,resolve,invoke,builtin,Sem.run_bind,Sem.run_pure,Result.andThen_ok,List.map_toArray,List.map_cons,List.map_nil,hv,U,hrun];exact hK _ _ (h v' w' Z h3 h4)
end
end
section
open Go.RowKit
section
variable {P : Program}
theorem oV(w:World)(old cells:Array Value)(t:TypeId):(w.alloc (.cells old t)).setRow w.heap.size cells=w.alloc (.cells cells t):=by
 simp only[World.setRow,World.alloc];congr 1;apply Array.ext
 ·simp
 ·intro i h1 D;simp only[Array.getElem_modify];split
  ·subst_vars;simp
  ·rw[Array.getElem_push,Array.getElem_push];have:i<w.heap.size:=by simp at D;omega
   simp[this]
theorem ld{ops:Array Oper}{rest:List Oper}{o:Oper}{a:Act}{w:World}{Q:Exit->Act->World->Prop}(ty:TypeId)(x:Operand)(J:o.op = .load ty x)(R:Region.wanted o (yielded ops a.tmps)=true)
  {b off:Nat} (U:a.eval x = .pointer (some ⟨b,off,none⟩)) {cs:List Value} {d:TypeDesc} (I:w.rangeAt b off cs)
  (O:P.underlying ty=some d) (hd:d.isRow=true) (hi:(P.info? ty).map (·.size)=some cs.length)
  (h:wpList P ops Q rest (a.put o.dst (.agg cs.toArray)) w):wpList P ops Q (o :: rest) a w:=
 wpList_step λK D=>by
  rw[if_pos R];exact wp_load_mid ty x J b off U cs d I O hd hi (D _ _ h)
theorem bQ{ops:Array Oper}{rest:List Oper}{o:Oper}{a:Act}{w:World}{Q:Exit->Act->World->Prop}(ty:TypeId)(x y:Operand)(O:o.op = .store ty x y)(R:Region.wanted o (yielded ops a.tmps)=true)
  {old cells:Array Value} {t:TypeId} (U:a.eval x = .pointer (some ⟨w.heap.size,0,none⟩)) (hy:a.eval y = .agg cells)
  (hi:(P.info? ty).map (·.size)=some cells.size) (D:old.size=cells.size) (h1:cells.all (·.oneCell')=true)
  (h:∀ I,I.heap[w.heap.size]? = some (.cells cells t (0,0))->Below w.heap.size w I->I.heap.size=w.heap.size+1->wpList P ops Q rest (a.put o.dst undef) I):
  wpList P ops Q (o :: rest) a (w.alloc (.cells old t)):=
 wpList_step λK J=>by
  rw[if_pos R];refine wp_store_row ty x y O w.heap.size cells U hy t old (heap_alloc_new w _) hi D h1 ?_;rw[oV];exact J _ _ (h _ (heap_alloc_new w _) ((Below.refl _ _).alloc (Nat.le_refl _) _) (by simp))
end
theorem Sn.range{w:World}{s n cap:Nat}{A:Option Addr}{O:List Value}(h:Sn w s (.slice A n cap) n O)(k:Nat)(Z:k<n):
  ∃ b off,A=some ⟨b,off,none⟩/\w.rangeAt b (off+k*s) ((O.drop (k*s)).take s):=by
 obtain⟨U,K,hv,V,hl,R⟩:=h;injection hv with hA _ _
 subst hA;obtain⟨b,off,rfl,D⟩:=R (by omega);refine⟨b,off,rfl,λj u I=>?_⟩;have J:j<s:=by have:=(List.getElem?_eq_some_iff.1 I).1;simp at this;omega
 rw[List.getElem?_take,if_pos J,List.getElem?_drop] at I;have:=D _ _ I;rw[show off+k*s+j=off+(k*s+j) from by omega];exact this
end
section
open Go.RowKit
section
variable {P : Program} {ops : Array Oper} {Q : Exit -> Act -> World -> Prop} {S : World -> Prop} {a : Act} {w : World} {listed : Array Bool} {fuel : Nat}
theorem cC(n:Nat)(S:World->Prop){J:Nat}(D:P.follows .mixedOrders=true)(I:ops.size=n)(hS:S w.drew)
  (h:S w.drew->wpAnyH P .any ops Q S n (Array.replicate n false) a w.drew):(Code.region J ops true).wp P Q a w:=by
 subst I;exact wp_region_held_drew D hS h
theorem GK(i:Nat)(I:Op)(dst:Option Tmp)(v:Value)(hd:(ops[i]?).map (λo=>(o.op,o.dst))=some (I,dst))(D:(ops[i]?).map (λo=>Region.wanted o (yielded ops a.tmps))=some true)
  (hs:Region.noSelect ops=true) (O:Region.free .any ops listed i=true) (R:(Region.ready .any ops listed).contains i=true)
  (K:∀ c a w,Q (.panic c) (a.put dst v) w->Q (.panic c) a w) (hy:∀ o:Oper,o.op=I->∀ w,S w->(execOp a.eval o).run P w = .ok (.value v) w) (hS:S w)
  (h:wpAnyH P .any ops Q S fuel (listed.setIfInBounds i true) (a.put dst v) w):wpAnyH P .any ops Q S (fuel+1) listed a w:=by
 cases ho:ops[i]? with
 | none=>rw[ho] at hd;cases hd
 | some o=>
  rw[ho] at hd D;simp only[Option.map_some,Option.some.injEq,Prod.mk.injEq] at hd D;obtain⟨h1,J⟩:=hd;subst J;exact wpAnyH_take ho hs O R K (.inl ⟨D,hy o h1⟩) hS h
theorem VP(i:Nat)(dst:Option Tmp)(hd:(ops[i]?).map (·.dst)=some dst)(D:(ops[i]?).map (λo=>Region.wanted o (yielded ops a.tmps))=some false)
  (hs:Region.noSelect ops=true) (J:Region.free .any ops listed i=true) (K:(Region.ready .any ops listed).contains i=true)
  (I:∀ c a w,Q (.panic c) (a.put dst undef) w->Q (.panic c) a w) (hS:S w)
  (h:wpAnyH P .any ops Q S fuel (listed.setIfInBounds i true) (a.put dst undef) w):wpAnyH P .any ops Q S (fuel+1) listed a w:=by
 cases ho:ops[i]? with
 | none=>rw[ho] at hd;cases hd
 | some o=>
  rw[ho] at hd D;simp only[Option.map_some,Option.some.injEq] at hd D;subst hd;exact wpAnyH_take ho hs J K I (.inr ⟨D,rfl⟩) hS h
theorem VQ(i:Nat)(ty:TypeId)(x:Operand)(dst:Option Tmp){b off:Nat}{cs:List Value}{d:TypeDesc}(hd:(ops[i]?).map (λo=>(o.op,o.dst))=some (.load ty x,dst))(I:(ops[i]?).map (λo=>Region.wanted o (yielded ops a.tmps))=some true)
  (hs:Region.noSelect ops=true) (O:Region.free .any ops listed i=true) (U:(Region.ready .any ops listed).contains i=true)
  (J:∀ c a w,Q (.panic c) (a.put dst (.agg cs.toArray)) w->Q (.panic c) a w) (Z:a.eval x = .pointer (some ⟨b,off,none⟩)) (K:∀ w,S w->w.rangeAt b off cs) (V:P.underlying ty=some d) (D:d.isRow=true) (hi:(P.info? ty).map (·.size)=some cs.length) (hS:S w)
  (h:wpAnyH P .any ops Q S fuel (listed.setIfInBounds i true) (a.put dst (.agg cs.toArray)) w):wpAnyH P .any ops Q S (fuel+1) listed a w:=
 GK i _ dst _ hd I hs O U J (λo R w I=>by
  unfold execOp
  simp only[R,Z,Instr.loadAt,Instr.sureAddr,Sem.run_bind,Sem.run_pure,Result.andThen_ok,run_loadVar_mid w b off ty cs d (K w I) V D hi]) hS h
theorem VR(i:Nat)(x:Operand)(dst:Option Tmp)(v:Value)(hd:(ops[i]?).map (λo=>(o.op,o.dst))=some (.move x,dst))(O:(ops[i]?).map (λo=>Region.wanted o (yielded ops a.tmps))=some true)
  (hs:Region.noSelect ops=true) (I:Region.free .any ops listed i=true) (K:(Region.ready .any ops listed).contains i=true)
  (D:∀ c a w,Q (.panic c) (a.put dst v) w->Q (.panic c) a w) (R:a.eval x=v) (hS:S w)
  (h:wpAnyH P .any ops Q S fuel (listed.setIfInBounds i true) (a.put dst v) w):wpAnyH P .any ops Q S (fuel+1) listed a w:=
 GK i _ dst _ hd O hs I K D (λo J w _=>by
  unfold execOp
  simp only[J,R,Sem.run_pure]) hS h
theorem AO{O:List Nat}(i:Nat)(J:Op)(dst:Option Tmp)(v:Value)(I:World)(hd:(ops[i]?).map (λo=>(o.op,o.dst))=some (J,dst))(D:(ops[i]?).map (λo=>Region.wanted o (yielded ops a.tmps))=some true)
  (hrun:∀ o:Oper,o.op=J->(execOp a.eval o).run P w = .ok (.value v) I) (hS:S I)
  (h:wpAnyH P .any ops Q S fuel (listed.setIfInBounds i true) (a.put dst v) I) (hs:AllReadyH P .any ops Q S fuel listed a w O):AllReadyH P .any ops Q S fuel listed a w (i :: O):=by
 cases ho:ops[i]? with
 | none=>rw[ho] at hd;cases hd
 | some o=>
  rw[ho] at hd D;simp only[Option.map_some,Option.some.injEq,Prod.mk.injEq] at hd D;obtain⟨R,U⟩:=hd;subst U;refine AllReadyH.cons ho (λK V=>?_) hs;rw[if_pos D];unfold Oper.wp;rw[hrun o R,Oper.upon_value];exact V _ _ hS (λ_=>h)
theorem QA{I:List Nat}(i:Nat)(ty:TypeId)(x y:Operand)(dst:Option Tmp){b off:Nat}{cs:List Value}(hd:(ops[i]?).map (λo=>(o.op,o.dst))=some (.store ty x y,dst))(D:(ops[i]?).map (λo=>Region.wanted o (yielded ops a.tmps))=some true)
  (U:a.eval x = .pointer (some ⟨b,off,none⟩)) (hy:a.eval y = .agg cs.toArray) (ht:w.there b off cs.length) (hi:(P.info? ty).map (·.size)=some cs.length) (h1:∀ u∈cs,u.oneCell'=true) (hS:S (w.setCells b off cs))
  (h:wpAnyH P .any ops Q S fuel (listed.setIfInBounds i true) (a.put dst undef) (w.setCells b off cs)) (hs:AllReadyH P .any ops Q S fuel listed a w I):AllReadyH P .any ops Q S fuel listed a w (i :: I):=by
 cases ho:ops[i]? with
 | none=>rw[ho] at hd;cases hd
 | some o=>
  rw[ho] at hd D;simp only[Option.map_some,Option.some.injEq,Prod.mk.injEq] at hd D;obtain⟨J,O⟩:=hd;subst O;refine AllReadyH.cons ho (λK R=>?_) hs;rw[if_pos D];refine wp_store_mid ty x y J b off cs.toArray U hy (by simpa using ht) (by simpa using hi) (all_oneCell_toArray h1) ?_;rw[List.toList_toArray];exact R _ _ hS (λ_=>h)
theorem VU{J:List Nat}(i:Nat)(I:Op)(dst:Option Tmp)(f:FuncId)(args:Array Value)(hd:(ops[i]?).map (λo=>(o.op,o.dst))=some (I,dst))(D:(ops[i]?).map (λo=>Region.wanted o (yielded ops a.tmps))=some true)
  (hent:∀ o:Oper,o.op=I->(execOp a.eval o).run P w = .ok (.enter f args) w)
  (h:Calls P f args w λe w'=>∃ v,e = .returned v/\S w'/\(S w'->wpAnyH P .any ops Q S fuel (listed.setIfInBounds i true) (a.put dst v) w')) (hs:AllReadyH P .any ops Q S fuel listed a w J):AllReadyH P .any ops Q S fuel listed a w (i :: J):=by
 cases ho:ops[i]? with
 | none=>rw[ho] at hd;cases hd
 | some o=>
  rw[ho] at hd D;simp only[Option.map_some,Option.some.injEq,Prod.mk.injEq] at hd D;obtain⟨O,R⟩:=hd;subst R;refine AllReadyH.cons ho (λK U=>?_) hs;rw[if_pos D];unfold Oper.wp;rw[hent o O,Oper.upon_enter];refine h.mono ?_;rintro e w' ⟨v,rfl,hS,V⟩;exact U _ _ hS V
end
section
variable {P : Program} {ops : Array Oper} {Q : Exit -> Act -> World -> Prop} {S : World -> Prop} {a : Act} {w : World} {listed : Array Bool} {fuel : Nat}
theorem jT (i : Nat) (D : Op) (dst : Option Tmp) (v : Value) (hS : S w) (h : wpAnyH P .any ops Q S fuel (listed.setIfInBounds i true) (a.put dst v) w)
    (hd : (ops[i]?).map (λo => (o.op, o.dst)) = some (D, dst) := by kernel_rfl) (R : (ops[i]?).map (λo => Region.wanted o (yielded ops a.tmps)) = some true := by kernel_rfl)
    (hs : Region.noSelect ops = true := by kernel_rfl) (J : Region.free .any ops listed i = true := by kernel_rfl) (O : (Region.ready .any ops listed).contains i = true := by kernel_rfl)
    (I : ∀ c a w, Q (.panic c) (a.put dst v) w -> Q (.panic c) a w := by exact λ_ _ _ h => h)
    (hy : ∀ o : Oper, o.op = D -> ∀ w, S w -> (execOp a.eval o).run P w = .ok (.value v) w := by exact λo K V U => by unfold execOp; simp only [K]; go_simp) :
    wpAnyH P .any ops Q S (fuel + 1) listed a w := GK i D dst v hd R hs J O I hy hS h
theorem jK (i : Nat) (dst : Option Tmp) (hS : S w) (h : wpAnyH P .any ops Q S fuel (listed.setIfInBounds i true) (a.put dst undef) w)
    (hd : (ops[i]?).map (·.dst) = some dst := by kernel_rfl) (K : (ops[i]?).map (λo => Region.wanted o (yielded ops a.tmps)) = some false := by kernel_rfl)
    (hs : Region.noSelect ops = true := by kernel_rfl) (I : Region.free .any ops listed i = true := by kernel_rfl) (J : (Region.ready .any ops listed).contains i = true := by kernel_rfl)
    (D : ∀ c a w, Q (.panic c) (a.put dst undef) w -> Q (.panic c) a w := by exact λ_ _ _ h => h) :
    wpAnyH P .any ops Q S (fuel + 1) listed a w := VP i dst hd K hs I J D hS h
theorem jM (i : Nat) (x : Operand) (dst : Option Tmp) (v : Value) (hS : S w) (h : wpAnyH P .any ops Q S fuel (listed.setIfInBounds i true) (a.put dst v) w)
    (hd : (ops[i]?).map (λo => (o.op, o.dst)) = some (.move x, dst) := by kernel_rfl) (K : (ops[i]?).map (λo => Region.wanted o (yielded ops a.tmps)) = some true := by kernel_rfl)
    (hs : Region.noSelect ops = true := by kernel_rfl) (I : Region.free .any ops listed i = true := by kernel_rfl) (J : (Region.ready .any ops listed).contains i = true := by kernel_rfl)
    (D : ∀ c a w, Q (.panic c) (a.put dst v) w -> Q (.panic c) a w := by exact λ_ _ _ h => h) (O : a.eval x = v := by exact rfl) :
    wpAnyH P .any ops Q S (fuel + 1) listed a w := VR i x dst v hd K hs I J D O hS h
theorem jL (i : Nat) (ty : TypeId) (x : Operand) (dst : Option Tmp) {b off : Nat} {cs : List Value} {d : TypeDesc} (J : ∀ w, S w -> w.rangeAt b off cs) (R : P.underlying ty = some d) (D : d.isRow = true) (hi : (P.info? ty).map (·.size) = some cs.length) (hS : S w)
    (h : wpAnyH P .any ops Q S fuel (listed.setIfInBounds i true) (a.put dst (.agg cs.toArray)) w)
    (hd : (ops[i]?).map (λo => (o.op, o.dst)) = some (.load ty x, dst) := by kernel_rfl) (U : (ops[i]?).map (λo => Region.wanted o (yielded ops a.tmps)) = some true := by kernel_rfl)
    (hs : Region.noSelect ops = true := by kernel_rfl) (K : Region.free .any ops listed i = true := by kernel_rfl) (O : (Region.ready .any ops listed).contains i = true := by kernel_rfl)
    (I : ∀ c a w, Q (.panic c) (a.put dst (.agg cs.toArray)) w -> Q (.panic c) a w := by exact λ_ _ _ h => h) (V : a.eval x = .pointer (some ⟨b, off, none⟩) := by exact rfl) :
    wpAnyH P .any ops Q S (fuel + 1) listed a w := VQ i ty x dst hd U hs K O I V J R D hi hS h
theorem jW (I : List Nat) (h : AllReadyH P .any ops Q S fuel listed a w I) (J : Region.ready .any ops listed = I := by kernel_rfl) (D : I ≠ [] := by simp) : wpAnyH P .any ops Q S (fuel + 1) listed a w := wpAnyH_ready J D h
theorem jN : AllReadyH P .any ops Q S fuel listed a w [] := AllReadyH.nil
theorem jS {J : List Nat} (i : Nat) (I : Op) (dst : Option Tmp) (v : Value) (D : World) (hS : S D)
    (h : wpAnyH P .any ops Q S fuel (listed.setIfInBounds i true) (a.put dst v) D) (hs : AllReadyH P .any ops Q S fuel listed a w J)
    (hd : (ops[i]?).map (λo => (o.op, o.dst)) = some (I, dst) := by kernel_rfl) (O : (ops[i]?).map (λo => Region.wanted o (yielded ops a.tmps)) = some true := by kernel_rfl)
    (hrun : ∀ o : Oper, o.op = I -> (execOp a.eval o).run P w = .ok (.value v) D := by exact λo K => by unfold execOp; simp only [K]; go_simp) :
    AllReadyH P .any ops Q S fuel listed a w (i :: J) := AO i I dst v D hd O hrun hS h hs
theorem jC {I : List Nat} (i : Nat) (D : Op) (dst : Option Tmp) (f : FuncId) (args : Array Value)
    (h : Calls P f args w λe w' => ∃ v, e = .returned v /\ S w' /\ (S w' -> wpAnyH P .any ops Q S fuel (listed.setIfInBounds i true) (a.put dst v) w')) (hs : AllReadyH P .any ops Q S fuel listed a w I)
    (hd : (ops[i]?).map (λo => (o.op, o.dst)) = some (D, dst) := by kernel_rfl) (K : (ops[i]?).map (λo => Region.wanted o (yielded ops a.tmps)) = some true := by kernel_rfl)
    (hent : ∀ o : Oper, o.op = D -> (execOp a.eval o).run P w = .ok (.enter f args) w := by exact λo J => by unfold execOp; simp only [J]; go_simp) :
    AllReadyH P .any ops Q S fuel listed a w (i :: I) := VU i D dst f args hd K hent h hs
theorem jR {D : List Nat} (i : Nat) (ty : TypeId) (x y : Operand) (dst : Option Tmp) {b off : Nat} {cs : List Value}
    (ht : w.there b off cs.length) (hi : (P.info? ty).map (·.size) = some cs.length) (h1 : ∀ u ∈ cs, u.oneCell' = true) (hS : S (w.setCells b off cs))
    (h : wpAnyH P .any ops Q S fuel (listed.setIfInBounds i true) (a.put dst undef) (w.setCells b off cs)) (hs : AllReadyH P .any ops Q S fuel listed a w D)
    (hd : (ops[i]?).map (λo => (o.op, o.dst)) = some (.store ty x y, dst) := by kernel_rfl) (I : (ops[i]?).map (λo => Region.wanted o (yielded ops a.tmps)) = some true := by kernel_rfl)
    (J : a.eval x = .pointer (some ⟨b, off, none⟩) := by exact rfl) (hy : a.eval y = .agg cs.toArray := by exact rfl) :
    AllReadyH P .any ops Q S fuel listed a w (i :: D) := QA i ty x y dst hd I J hy ht hi h1 hS h hs
end
theorem j1 (a : Act) (d : Tmp) (v : Value) : a.put (some d) v = ⟨a.tmps.setIfInBounds d v, a.defers⟩ := rfl
theorem j2 (a : Act) (v : Value) : a.put none v = a := rfl
theorem j3 {α : Type} (l : List α) (i : Nat) (a : α) : l.toArray.setIfInBounds i a = (l.set i a).toArray := List.setIfInBounds_toArray l i a
theorem j4 {α : Type} {x : α} {xs : List α} {a : α} : (x :: xs).set 0 a = a :: xs := rfl
theorem j5 {α : Type} {x : α} {xs : List α} {i : Nat} {a : α} : (x :: xs).set (i + 1) a = x :: xs.set i a := rfl
theorem jq : (∀ (a : Act) (d : Tmp) (v : Value), a.put (some d) v = ⟨a.tmps.setIfInBounds d v, a.defers⟩) /\ (∀ (a : Act) (v : Value), a.put none v = a) /\ (∀ {α : Type} (l : List α) (i : Nat) (a : α), l.toArray.setIfInBounds i a = (l.set i a).toArray) /\ (∀ {α : Type} {x : α} {xs : List α} {a : α}, (x :: xs).set 0 a = a :: xs) /\ (∀ {α : Type} {x : α} {xs : List α} {i : Nat} {a : α}, (x :: xs).set (i + 1) a = x :: xs.set i a) := ⟨j1, j2, j3, @j4, @j5⟩
theorem je.{u} {α : Sort u} (a : α) : ∃ b, b = a := ⟨a, rfl⟩
theorem jb (b : Bool) : b = true \/ b = false := Bool.eq_false_or_eq_true b
theorem jt {α : Type} (l : List α) : l.toArray.toList = l := List.toList_toArray
theorem js {α : Type} (l : List α) : l.toArray.size = l.length := List.size_toArray
theorem jz {p : Prop} (h : p) : RowKit.Hid p := Lib.hid h
theorem ja (n : Nat) : n <= n := Nat.le_refl n
theorem jf {α : Type} {D : List α} {i : Nat} : D.toArray[i]? = D[i]? := List.getElem?_toArray
theorem jg {α : Type} {a : α} {l : List α} : (a :: l)[0]? = some a := rfl
theorem jh {α : Type} {a : α} {i : Nat} {l : List α} : (a :: l)[i + 1]? = l[i]? := rfl
theorem ji (B : Nat) (w : World) : Below B w w := Below.refl B w
theorem jj {α : Type} {D bs : List α} : (D ++ bs).length = D.length + bs.length := List.length_append
theorem jk {α : Type} {D : Array α} : D.toList.length = D.size := Array.length_toList
theorem jl {α : Type} {b : α} {l : List α} {a : α} : a ∈ b :: l ↔ a = b \/ a ∈ l := List.mem_cons
theorem jm {n m k : Nat} (h : n <= m) (g : m <= k) : n <= k := Nat.le_trans h g
theorem jn {α : Type} {l : List α} {i : Nat} {a : α} : l.getD i a = l[i]?.getD a := List.getD_eq_getElem?_getD
theorem jo (n m : Nat) : n < m \/ n >= m := Nat.lt_or_ge n m
theorem jp {n m k : Nat} (h : n < m) (g : m <= k) : n < k := Nat.lt_of_lt_of_le h g
theorem ju {α : Type} {a : α} {s t : List α} : a ∈ s ++ t ↔ a ∈ s \/ a ∈ t := List.mem_append
theorem jv {α : Type} {i : Nat} {l : List α} : (List.take i l).length = min i l.length := List.length_take
theorem jx {α : Type} {s t : List α} {i : Nat} (h : s.length <= i) : (s ++ t)[i]? = t[i - s.length]? := List.getElem?_append_right h
theorem jy {α : Type} {s t : List α} {i : Nat} (h : i < s.length) : (s ++ t)[i]? = s[i]? := List.getElem?_append_left h
theorem j6 {α : Type} {i : Nat} {l : List α} (h : i < l.length) : List.take (i + 1) l = List.take i l ++ [l[i]] := List.take_succ_eq_append_getElem h
theorem j7 {α : Type} {i : Nat} {a : α} {l : List α} (h : a ∈ List.take i l) : a ∈ l := List.mem_of_mem_take h
theorem j8 {α : Type} {a : α} : ¬a ∈ ([] : List α) := List.not_mem_nil
theorem j9 {w w' : World} (h : Below w.heap.size w w') {a : Addr} {v : Value} (k : w.cell? a = some v) : w'.cell? a = some v := Below.cell' h k
theorem j0 (n : Nat) : 0 <= n := Nat.zero_le n
theorem jP.{u} {c : Prop} {h : Decidable c} (hc : c) {α : Sort u} {t e : α} : ite c t e = t := if_pos hc
theorem jQ.{u} {c : Prop} {h : Decidable c} (hc : ¬c) {α : Sort u} {t e : α} : ite c t e = e := if_neg hc
abbrev Wd : Type := World
abbrev Wl : Type := List Int
abbrev Wv : Type := List Value
abbrev Wa : Type := Array Value
abbrev Wc := Calls prog
abbrev Bw (w W : World) : Prop := Below w.heap.size w W
abbrev Rt (w : World) (v : Value) (e : Ending) (W : World) : Prop := e = .returned v /\ Below w.heap.size w W
end
section
open Go.RowKit
def Blk(w:World)(g:Nat)(t:TypeId)(cs:Array Value):Prop:=w.heap[g]? = some (.cells cs t (0,0))
section
variable {w w' : World} {g : Nat} {t : TypeId} {cs : Array Value}
theorem Blk.lt(h:Blk w g t cs):g<w.heap.size:=by
 rcases jo g w.heap.size with I|D
 ·exact I
 ·unfold Blk at h;rw[Array.getElem?_eq_none D] at h;cases h
theorem Blk.cell(h:Blk w g t cs)(i:Nat):w.cell? ⟨g,i,none⟩=cs[i]?:=cell_of_row w g i cs t (0,0) h
theorem Blk.frozen(h:Blk w g t cs)(i:Nat):w.frozen? ⟨g,i,none⟩=false:=by
 unfold Blk at h;simp[World.frozen?,h]
theorem Blk.new(w:World)(t:TypeId)(cs:Array Value):Blk (w.alloc (.cells cs t)) w.heap.size t cs:=heap_alloc_new w _
theorem Blk.newAt(w:World)(t:TypeId)(cs:Array Value)(g:Nat)(hg:w.heap.size=g):Blk (w.alloc (.cells cs t)) g t cs:=by subst hg;exact heap_alloc_new w _
theorem Blk.drewN(h:Blk w g t cs)(n:Nat):Blk (w.drewN n) g t cs:=h
theorem Blk.alloc(h:Blk w g t cs)(o:Obj):Blk (w.alloc o) g t cs:=(Below.heap_alloc w o g h.lt).trans h
theorem Blk.set_(h:Blk w g t cs)(i:Nat)(u:Value):Blk (w.setCell ⟨g,i,none⟩ u) g t (cs.setIfInBounds i u):=by
 unfold Blk at h ⊢;simp[World.setCell,Array.getElem?_modify,h]
theorem Blk.far(h:Blk w g t cs){p:Addr}(D:g≠p.block)(u:Value):Blk (w.setCell p u) g t cs:=(Below.heap_setCell w p u g D).trans h
theorem Blk.below{B:Nat}(h:Blk w g t cs)(hb:Below B w w')(hg:g<B):Blk w' g t cs:=(hb.block g hg).trans h
theorem Blk.keep(h:Blk w g t cs)(hb:Below w.heap.size w w'):Blk w' g t cs:=h.below hb h.lt
theorem Blk.range(h:Blk w g t cs):w.rangeAt g 0 cs.toList:=λj u D=>by
 rw[Nat.zero_add,h.cell j];simpa using D
end
theorem aN{P:Program}{ops:Array Oper}{rest:List Oper}{o:Oper}{a:Act}{w:World}{Q:Exit->Act->World->Prop}(ty:TypeId)(x y:Operand)(U:o.op = .store ty x y)(V:Region.wanted o (yielded ops a.tmps)=true)
  {g t:Nat} {old cells:Array Value} (Z:a.eval x = .pointer (some ⟨g,0,none⟩)) (hy:a.eval y = .agg cells) (O:Blk w g t old)
  (hi:(P.info? ty).map (·.size)=some cells.size) (I:old.size=cells.size) (h1:cells.all (·.oneCell')=true)
  (h:∀ J,Blk J g t cells->Below g w J->(∀ D,D≠g->J.heap[D]? = w.heap[D]?)->J.heap.size=w.heap.size->wpList P ops Q rest (a.put o.dst undef) J):
  wpList P ops Q (o :: rest) a w:=
 wpList_step λK R=>by
  rw[jP V];refine wp_store_row ty x y U g cells Z hy t old O hi I h1 ?_;refine R _ _ (h _ (setRow_heap w g old cells t (0,0) O) ⟨rfl,rfl,rfl,by simp,λk hk=>setRow_other w g k cells (by omega)⟩ (λD hg=>setRow_other w g D cells hg) (by simp))
structure Off(b:Nat)(w w':World):Prop where
 os:w'.os=w.os
 tape:w'.tape=w.tape
 output:w'.output=w.output
 size:w.heap.size<=w'.heap.size
 block:∀ k,k<w.heap.size->k≠b->w'.heap[k]? = w.heap[k]?
theorem Off.of_below{b:Nat}{w w':World}(h:Below w.heap.size w w'):Off b w w':=⟨h.os,h.tape,h.output,h.size,λk D _=>h.block k D⟩
theorem Off.refl(b:Nat)(w:World):Off b w w:=⟨rfl,rfl,rfl,ja _,λ_ _ _=>rfl⟩
theorem Off.trans{b:Nat}{x y z:World}(h:Off b x y)(k:Off b y z):Off b x z:=
 ⟨k.os.trans h.os,k.tape.trans h.tape,k.output.trans h.output,jm h.size k.size,λi hi D=>(k.block i (jp hi h.size) D).trans (h.block i hi D)⟩
theorem Off.of_grown{b:Nat}{w w':World}(h:w.grownBy w' (some b)):Off b w w':=⟨h.os,h.tape,h.output,h.size,λk I D=>h.block k I (λe=>D (Option.some.inj e))⟩
theorem Off.cell{b:Nat}{w w':World}(h:Off b w w'){a:Addr}{v:Value}(D:w.cell? a=some v)(I:a.block≠b):w'.cell? a=some v:=by
 have:=h.block a.block (eQ D) I;unfold World.cell? at D ⊢;rw[this];exact D
theorem Off.below{b B:Nat}{w w':World}(h:Off b w w')(D:B<=b)(hs:B<=w.heap.size):Below B w w':=⟨h.os,h.tape,h.output,h.size,λk I=>h.block k (by omega) (by omega)⟩
theorem Off.blk{b:Nat}{w w':World}(h:Off b w w'){g:Nat}{t:TypeId}{cs:Array Value}(I:Blk w g t cs)(D:g≠b):Blk w' g t cs:=(h.block g I.lt D).trans I
theorem Off.set{b:Nat}{w w':World}(h:Off b w w')(i:Nat)(u:Value):Off b w (w'.setCell ⟨b,i,none⟩ u):=
 ⟨h.os,h.tape,h.output,by simpa using h.size,λk I D=>(Below.heap_setCell w' ⟨b,i,none⟩ u k D).trans (h.block k I D)⟩
theorem Off.drew{b:Nat}{w w':World}(h:Off b w w'):Off b w w'.drew:=⟨h.os,h.tape,h.output,h.size,h.block⟩
theorem Off.drewN{b:Nat}{w w':World}(h:Off b w w')(n:Nat):Off b w (w'.drewN n):=⟨h.os,h.tape,h.output,h.size,h.block⟩
end
section
open Go.RowKit
def u8s(l:List Int):List Value:=l.map (Value.int .u8)
structure DigOk(d:List Int):Prop where
 len:d.length=32
 byte:∀ b∈d,0<=b/\b<=255
def aI(n:Int):Prop:=-9223372036854775808<=n/\n<=9223372036854775807
theorem kU{n:Int}(h:(Lit.int .i64 n).wf=true):aI n:=by
 simp[Lit.wf,IntKind.min,IntKind.max,IntKind.signed,IntKind.bits] at h;unfold aI;omega
theorem LP{n:Int}(h:aI n):(Lit.int .i64 n).wf=true:=by
 unfold aI at h;simp[Lit.wf,IntKind.min,IntKind.max,IntKind.signed,IntKind.bits];omega
def cS(d:List Int)(t:Int):List Value:=u8s d++[.int .i64 t]
theorem jH{d:List Int}(h:DigOk d)(t:Int):(cS d t).length=33:=by simp[cS,u8s,h.len]
theorem gO(d:List Int)(t:Int):(cS d t).toArray.all (·.oneCell')=true:=by
 refine all_oneCell_toArray λv D=>?_
 simp[cS,u8s] at D;rcases D with ⟨_,_,rfl⟩|rfl <;> rfl
theorem dL(d:List Int):(u8s d).toArray.all (·.oneCell')=true:=by
 refine all_oneCell_toArray λv D=>?_
 simp[u8s] at D;obtain⟨_,_,rfl⟩:=D;rfl
def aO(p:List Int×Int):List Value:=cS p.1 p.2
structure EntOk(p:List Int×Int):Prop where
 dig:DigOk p.1
 exp:aI p.2
theorem bC(p:List Int×Int)(h:EntOk p):(aO p).length=33:=jH h.dig _
def Bys(l:List Int):Prop:=∀ b∈l,0<=b/\b<=255
theorem aK(l:List Int):(u8s l).length=l.length:=by simp[u8s]
theorem cI(l:List Int):∀ u∈u8s l,u.oneCell'=true:=λu D=>by
 simp only[u8s,List.mem_map] at D;obtain⟨_,_,rfl⟩:=D;rfl
theorem fH(a b:List Int):u8s (a++b)=u8s a++u8s b:=by simp[u8s]
theorem mG(a:List Int)(k:Nat):u8s (a.take k)=(u8s a).take k:=by simp[u8s,List.map_take]
theorem oW(a:List Int)(k:Nat):u8s (a.drop k)=(u8s a).drop k:=by simp[u8s,List.map_drop]
theorem oX(a:List Int)(k:Nat)(h:k<a.length):(u8s a)[k]? = some (.int .u8 a[k]):=by simp[u8s,h]
theorem Sn.sliced{w:World}{s n:Nat}{A:Option Addr}{cap:Nat}{K:List Value}(h:Sn w s (.slice A n cap) n K)(i j m:Nat)(U:i<=j)(V:j<=n)(hm:j<=m):Sn w s (sliced A i j m s) (j-i) ((K.take (j*s)).drop (i*s)):=by
 obtain⟨A',O,hv,R,hl,hx⟩:=h;injection hv with hA _ _
 subst hA;have Z:j*s<=n*s:=Nat.mul_le_mul_right s V;have I:((K.take (j*s)).drop (i*s)).length=(j-i)*s:=by rw[List.length_drop,jv,Nat.sub_mul];omega
 unfold Go.sliced;refine⟨_,_,rfl,by omega,I,λhp=>?_⟩;obtain⟨b,off,rfl,D⟩:=hx (by omega);rw[jQ (by omega)];refine⟨b,off+i*s,by simp[Addr.add_mid],λk u J=>?_⟩;rw[List.getElem?_drop,List.getElem?_take] at J;split at J
 ·have:=D _ _ J;rw[<- Nat.add_assoc] at this;exact this
 ·cases J
theorem fQ:SlT prog 60 5 1 1:=SlT.mk' underlying60 (z:=.int .u8 0) (by kernel_rfl) rfl (by decide)
def RD(w:World)(r:Nat)(v:Value)(xs:List Int)(bad:Bool):Prop:=Blk w r 263 #[v,.bool bad]/\Sn w 1 v xs.length (u8s xs)
theorem mH(Z:Value)(n:Nat)(R:List Value)(w:World)(hs:Sn w 1 Z n R)(h1:∀ u∈R,u.oneCell'=true)(hn:n<=1000000):
  Calls prog 161 #[Z] w λe w'=>∃ v,e = .returned v/\Sn w' 1 v n R/\Below w.heap.size w w':=by
 obtain⟨A,cap,rfl,U,hl,V⟩:=id hs;have HS:=jz hs;have HX:=jz V;clear V;cases A with
 | none=>
  have K:∀ w:World,(binOp .eql 60 (.slice none n cap) (.slice none 0 0)).run prog w = .ok (.bool true) w:=λ_=>rfl
  go_enter func161,ntmps161
  go_wp2_with fail
  go_ret;have O:n=0:=by
   rcases Nat.eq_zero_or_pos n with h|h
   ·exact h
   ·obtain⟨b,off,e,_⟩:=HX.out h;cases e
  subst O;exact⟨_,rfl,⟨none,0,rfl,ja _,hl,λh=>absurd h (by omega)⟩,ji _ _⟩
 | some a=>
  have K:∀ w:World,(binOp .eql 60 (.slice (some a) n cap) (.slice none 0 0)).run prog w = .ok (.bool false) w:=λ_=>rfl
  have D:(w.alloc (.cells #[] 5)).ownsRow w.heap.size 5 1 (.slice (some ⟨w.heap.size,0,none⟩) 0 0) 0 []:=nC w #[] 5 1 0 w.heap.size w.heap.size (ja _) rfl (by unfold maxLen;omega) rfl;go_enter func161,ntmps161
  clear hs;go_wp2_with (at_builtin;refine app fQ (.tmp 5) (.tmp 6) rfl rfl rfl D rfl (HS.alloc _) h1 (by unfold maxLen;omega) (by omega) (by simp) ?_;intro v' w3 J I _)
  go_ret;have hb:Below w.heap.size w w3:=((ji _ w).alloc (ja _) _).grown I (by simp) (λg hg=>by have:=(D.lt g hg).1;omega);have:=Sn.own J;rw[Nat.zero_add,List.nil_append] at this;exact⟨_,rfl,this,hb⟩
theorem AP(R:Value)(I:List Int)(w:World)(hs:Sn w 1 R I.length (u8s I))(Z:I.length<=1000000):
  Calls prog 110 #[R] w λe w'=>∃ r v,e = .returned (.pointer (some ⟨r,0,none⟩))/\RD w' r v I false/\w.heap.size<=r/\Below w.heap.size w w':=by
 have V:=jz hs;clear hs;go_enter func110,ntmps110
 go_wp2_with fail
 refine(mH R I.length (u8s I) w V (cI I) Z).mono ?_;rintro e w1 ⟨v,rfl,D,J⟩;obtain⟨A,cap,rfl,U,hl,_⟩:=id D;have O:=jz D;have K:=J.size;clear D;go_wp2_with fail
 go_ret;exact⟨_,_,rfl,⟨Blk.new _ _ _,O.alloc _⟩,K,J.alloc K _⟩
theorem RD.ne{w:World}{r:Nat}{O:List Int}{I:Bool}{v:Value}(J:Blk w r 263 #[v,.bool I]){A:Option Addr}{cap:Nat}(K:v = .slice A O.length cap){b i:Nat}{k:Int}(D:w.cell? ⟨b,i,none⟩=some (.int .u8 k)):b≠r:=by
 intro e;subst e K;rw[J.cell] at D
 match i with
 | 0=>simp at D
 | 1=>simp at D
 | i+2=>simp at D
theorem Sn.offB{w w':World}{r n:Nat}{v x:Value}{R:List Int}{J:Bool}{A:Option Addr}{k cap:Nat}(h:Sn w 1 x n (u8s R))(V:Blk w r 263 #[v,.bool J])(hv:v = .slice A k cap)(ho:Off r w w'):Sn w' 1 x n (u8s R):=by
 obtain⟨U,I,hx,Z,hl,D⟩:=h;refine⟨U,I,hx,Z,hl,λhp=>?_⟩;obtain⟨b,off,rfl,O⟩:=D hp;refine⟨b,off,rfl,λj u K=>ho.cell (O j u K) λe=>?_⟩;have hcj:=O j u K;have e:b=r:=e;subst e hv;rw[V.cell] at hcj;have hu:∃ k:Int,u = .int .u8 k:=by
  have:=List.mem_of_getElem? K;simp only[u8s,List.mem_map] at this;obtain⟨k,_,rfl⟩:=this;exact⟨k,rfl⟩
 obtain⟨k',rfl⟩:=hu;generalize off+j=i at hcj
 match i with
 | 0=>simp at hcj
 | 1=>simp at hcj
 | i+2=>simp at hcj
theorem sQ(r:Nat)(v:Value)(J:Bool)(w:World)(D:Blk w r 263 #[v,.bool J]):
  Calls prog 208 #[.pointer (some ⟨r,0,none⟩)] w λe w'=>e = .returned (.tuple #[])/\RD w' r (.slice none 0 0) [] true/\Off r w w':=by
 have O:=D.cell 0;have h1:=D.cell 1;have V:=D.frozen 0;have Z:=D.frozen 1;simp only[jf,jg,jh] at O h1;have I:=(D.set_ 1 (.bool true)).set_ 0 (.slice none 0 0);have K:=jz I;have R:(w.setCell ⟨r,1,none⟩ (.bool true)).cell? ⟨r,0,none⟩=some v:=by rw[(D.set_ 1 (.bool true)).cell];rfl
 have U:=(D.set_ 1 (.bool true)).frozen 0;clear D I;go_enter func208,ntmps208
 go_wp2_with fail
 go_end0
 exact⟨rfl,⟨K,⟨none,0,rfl,ja _,rfl,λh=>absurd h (by simp)⟩⟩,((Off.refl r w).set 1 _).set 0 _⟩
theorem GL(r:Nat)(v:Value)(D:List Int)(I:Bool)(n:Nat)(w:World)(h:RD w r v D I)(hl:D.length<=1000000):
    Calls prog 163 #[.pointer (some ⟨r,0,none⟩),.int .u64 n] w λe w'=>Off r w w' /\
      ((I = false /\ n <= D.length /\ ∃ x v', e = .returned (.tuple #[x, .bool true]) /\ Sn w' 1 x n (u8s (D.take n)) /\ RD w' r v' (D.drop n) false) \/
       ((I=true\/D.length<n)/\e = .returned (.tuple #[.slice none 0 0,.bool false])/\RD w' r (.slice none 0 0) [] true)):=by
  obtain⟨V,hs⟩:=h;obtain⟨A,cap,rfl,a0,a8,_⟩:=id hs;have HS:=jz hs;have U:=jz V;have h0:=V.cell 0;have h1:=V.cell 1;have f0:=V.frozen 0;simp only[jf,jg,jh] at h0 h1;have O:I=true\/I=false/\decide (D.length<n)=true\/I=false/\decide (D.length<n)=false:=by
    cases I <;> cases decide (D.length<n) <;> simp
  clear V hs;rcases O with rfl|⟨rfl,t1⟩|⟨rfl,t1⟩
  · go_enter func163,ntmps163
    go_wp2_with fail
    refine(sQ r _ true w U).mono ?_;rintro e w1 ⟨rfl,hR,R⟩;go_wp2_with fail
    go_ret2
    exact⟨R,.inr ⟨.inl trivial,rfl,hR⟩⟩
  · go_enter func163,ntmps163
    go_wp2_with fail
    refine(sQ r _ false w U).mono ?_;rintro e w1 ⟨rfl,hR,R⟩;go_wp2_with fail
    go_ret2
    exact⟨R,.inr ⟨.inr (by have:=of_decide_eq_true t1;omega),rfl,hR⟩⟩
  · have hn:n<=D.length:=by have:=of_decide_eq_false t1;omega
    have a6:(n:Int)<=cap:=by omega
    have a7:(n:Int)<=D.length:=by omega
    have a5:(0:Int)<=n:=by omega
    have a9:=underlying60;go_enter func163,ntmps163
    have a2:Hid (Sn w 1 (sliced A 0 n n 1) n (u8s (D.take n))):=jz (by
      have:=HS.sliced 0 n n (by omega) hn (ja _)
      rw[mG]
      simpa using this)
    have a3:Hid (Sn w 1 (sliced A n D.length cap 1) (D.drop n).length (u8s (D.drop n))):=jz (by
      have:=HS.sliced n D.length cap hn (ja _) a0
      rw[oW,List.length_drop]
      have e:(u8s D).take (D.length*1)=u8s D:=List.take_of_length_le (by rw[aK];omega)
      rw[e] at this
      simpa using this)
    have a4:=jz (U.set_ 0 (sliced A n D.length cap 1));have R:Off r w (w.setCell ⟨r,0,none⟩ (sliced A n D.length cap 1)):=(Off.refl r w).set 0 _;have HO:=jz R;clear R;by_cases hcn:cap=n
    all_goals
      go_wp2_with fail
      go_ret2
      have K:=a2.offB U rfl HO.out;have a1:=a3.offB U rfl HO.out;have e2:sliced A 0 n n 1 = .slice A n n:=by
        unfold Go.sliced;cases A with
        | none=>simp
        | some a=>obtain⟨b,o,s⟩:=a;simp[Addr.add]
      have Z:=a4.out;rw[e2] at K;refine⟨?_,.inl ⟨trivial,hn,_,sliced A n D.length cap 1,rfl,?_,?_⟩⟩
    · have J:sliced A n D.length cap 1 = .slice A (D.length-n) 0:=by simp[Go.sliced,hcn]
      rw[<- J];exact HO.out
    · have J:sliced A n D.length cap 1 = .slice A (D.length-n) 0:=by simp[Go.sliced,hcn]
      rw[J] at K;exact K
    · have J:sliced A n D.length cap 1 = .slice A (D.length-n) 0:=by simp[Go.sliced,hcn]
      rw[<- J];exact⟨Z,a1⟩
    · have J:sliced A n D.length cap 1 = .slice (A.map (·.add n)) (D.length-n) (cap-n):=by simp[Go.sliced,hcn]
      rw[<- J];exact HO.out
    · have J:sliced A n D.length cap 1 = .slice (A.map (·.add n)) (D.length-n) (cap-n):=by simp[Go.sliced,hcn]
      rw[J] at K;exact K
    · have J:sliced A n D.length cap 1 = .slice (A.map (·.add n)) (D.length-n) (cap-n):=by simp[Go.sliced,hcn]
      rw[<- J];exact⟨Z,a1⟩
end
section
open Go.RowKit
attribute [local irreducible] wpQuiet wpAnyH
def beN(l:List Int):Nat:=l.foldl (λx c=>x*256+c.toNat) 0
theorem tJ(l:List Int)(k:Nat)(h:k<l.length):beN (l.take (k+1))=beN (l.take k)*256+l[k].toNat:=by
 unfold beN;rw[j6 h,List.foldl_append];rfl
theorem mI(l:List Int)(hb:Bys l):beN l<256 ^ l.length:=by
 have key:∀ k,k<=l.length->beN (l.take k)<256 ^ k:=by
  intro k;induction k with
  | zero=>intro _;simp[beN]
  | succ k ih=>
   intro K;have D:k<l.length:=by omega
   rw[tJ l k D,Nat.pow_succ];have h1:=ih (by omega);have I:=hb l[k] (List.getElem_mem D);have J:beN (l.take k)*256+256<=256 ^ k*256:=by
    have:=Nat.mul_le_mul_right 256 (show beN (l.take k)+1<=256 ^ k from h1);rw[Nat.add_mul] at this;omega
   omega
 have:=key l.length (ja _)
 rwa [List.take_length] at this
theorem GM(y c j:Nat)(I:j<=7)(hy:y<256 ^ j)(D:c<256):bits .or .u64 (IntKind.u64.wrap ((y:Int)*256)) (c:Int)=((y*256+c:Nat):Int):=by
 have O:(256:Nat) ^ j<=256 ^ 7:=Nat.pow_le_pow_right (by omega) I;have K:(256:Nat) ^ 7=72057594037927936:=by decide
 have J:IntKind.u64.wrap ((y:Int)*256)=((y*256:Nat):Int):=by
  rw[IntWalk.u64_in _ (by omega)];simp
 rw[J,bits_or_u64_nat (y*256) c (by omega) (by omega)];have:=Nat.two_pow_add_eq_or_of_lt (i:=8) (b:=c) (by simpa using D) y;rw[show(2:Nat) ^ 8=256 from rfl] at this;rw[Nat.mul_comm y 256,<- this]
theorem I8(r:Nat)(v:Value)(J:List Int)(K:Bool)(k:Nat)(w:World)(h:RD w r v J K)(hb:Bys J)(hl:J.length<=1000000)(c3:1<=k)(c4:k<=8):
    Calls prog 162 #[.pointer (some ⟨r,0,none⟩),.int .i64 k] w λe w'=>Off r w w' /\
      ((K = false /\ k <= J.length /\ ∃ v', e = .returned (.tuple #[.int .u64 (beN (J.take k)), .bool true]) /\ RD w' r v' (J.drop k) false) \/
       ((K=true\/J.length<k)/\e = .returned (.tuple #[.int .u64 0,.bool false])/\RD w' r (.slice none 0 0) [] true)):=by
  have HR:=jz h;clear h;have b7:(1:Int)<=k:=by omega
  have c2:(k:Int)<=8:=by omega
  go_enter func162,ntmps162
  go_wp2_with fail
  refine(GL r v J K k w HR hl).mono ?_;rintro e w1 ⟨ho,⟨rfl,a9,x,v',rfl,R,hR⟩|⟨U,rfl,hR⟩⟩
  · obtain⟨A,cap,rfl,b2,_,_⟩:=id R;have a0:Bys (J.take k):=λb a7=>hb b (j7 a7)
    obtain⟨l,hL⟩:=je (J.take k);have a4:l.length=k:=by rw[hL,jv];omega
    rw[<- hL] at R a0;have HL:=jz hL;have a2:=jz a0;have a6:=jz R;have HO:=jz ho;have Z:=jz hR;have V:=jz a4;clear hL R a0 ho hR a9 a4 hb;go_wp2_with fail
    go_loopw [30,8] (λi x wr=>∃ j:Nat,j<=k/\i = .int .i64 j/\x = .int .u64 (beN (l.take j))/\wr=w1) (λi _ _=>k-(intOf i).toNat)
    case atStart=>exact⟨0,j0 _,rfl,rfl,rfl⟩
    case round=>
      obtain⟨j,hj,rfl,rfl,rfl⟩:=hrel;by_cases hlt:j<k
      · obtain⟨A',b1,hA,_,b0,D⟩:=a6.out;injection hA with hA _ _
        subst hA;obtain⟨b,off,rfl,hr⟩:=D (by omega);have a1:j<l.length:=by rw[V.out];exact hlt
        have hc:=hr j _ (oX l j a1);have a8:=a2.out l[j] (List.getElem_mem a1);obtain⟨c,a3⟩:∃ c:Nat,l[j]=c:=⟨l[j].toNat,by omega⟩;have O:=tJ l j a1;rw[a3] at hc O a8;have I:beN (l.take j)<256 ^ j:=by
          have:=mI (l.take j) (λb hb=>a2.out b (j7 hb))
          rwa [jv,Nat.min_eq_left (by omega)] at this
        obtain⟨y,hy⟩:=je (beN (l.take j));rw[<- hy] at O I;rw[<- hy];have a5:=jz O;have c5:bits .or .u64 (IntKind.u64.wrap ((y:Int)*256)) (c:Int)=((y*256+c:Nat):Int):=GM y c j (by omega) I (by omega);have b3:(0:Int)<=j:=by omega
        have b9:(j:Int)<k:=by omega
        clear hr D O hy a3 b0;go_wp2_with fail
        refine⟨⟨j+1,by omega,by go_num,?_,by trivial⟩,by simp[intOf];omega⟩;rw[a5.out];simp
      · obtain rfl:j=k:=by omega
        rw[List.take_of_length_le (by rw[V.out];omega)];go_wp2_with fail
        go_ret2
        refine⟨HO,.inl ⟨?_,?_,v',Z⟩⟩
        · have:=V.out;rw[HL.out,jv] at this;omega
        · rw[HL.out];rfl
  · have HO:=jz ho;have Z:=jz hR;have HB:=jz U;clear ho hR U;go_wp2_with fail
    go_ret2
    exact⟨HO,.inr ⟨HB,rfl,Z⟩⟩
theorem gA(r:Nat)(v:Value)(J:List Int)(I:Bool)(k:Nat)(w:World)(h:RD w r v J I)(hb:Bys J)(hl:J.length<=1000000)(U:1<=k)(V:k<=8):
    Calls prog 112 #[.pointer (some ⟨r,0,none⟩),.int .i64 k] w λe w'=>Off r w w' /\
      ((I = false /\ k <= J.length /\ ∃ v', e = .returned (.int .u64 (beN (J.take k))) /\ RD w' r v' (J.drop k) false) \/
       ((I=true\/J.length<k)/\e = .returned (.int .u64 0)/\RD w' r (.slice none 0 0) [] true)):=by
  go_enter func112,ntmps112
  have HR:=jz h;clear h;go_wp2_with fail
  refine(I8 r v J I k w HR hb hl U V).mono ?_;rintro e w1 ⟨ho,⟨D,Z,v',rfl,R⟩|⟨D,rfl,R⟩⟩
  all_goals
    have HO:=jz ho;have O:=jz R;have K:=jz D;clear ho R D;go_wp2_with fail
    go_ret
  · exact⟨HO,.inl ⟨K,Z,v',rfl,O⟩⟩
  · exact⟨HO,.inr ⟨K,rfl,O⟩⟩
theorem GN(r:Nat)(v:Value)(K:List Int)(I:Bool)(n:Nat)(w:World)(h:RD w r v K I)(hl:K.length<=1000000)(hn:n<=1000000):
    Calls prog 169 #[.pointer (some ⟨r,0,none⟩),.int .i64 n] w λe w'=>Off r w w' /\
      ((I = false /\ n <= K.length /\ ∃ x v', e = .returned x /\ Sn w' 1 x n (u8s (K.take n)) /\ RD w' r v' (K.drop n) false) \/
       ((I=true\/K.length<n)/\e = .returned (.slice none 0 0)/\RD w' r (.slice none 0 0) [] true)):=by
  go_enter func169,ntmps169
  have HR:=jz h;have a3:(0:Int)<=n:=by omega
  have a4:(n:Int)<=1000000:=by omega
  clear h;go_wp2_with fail
  refine(GL r v K I n w HR hl).mono ?_;rintro e w1 ⟨Z,⟨rfl,U,x,v',rfl,V,R⟩|⟨J,rfl,R⟩⟩
  · have HO:=jz Z;have D:=jz R;have a1:=jz V;have HK:=jz U;clear Z R V U;go_wp2_with fail
    refine(mH x n (u8s (K.take n)) w1 a1 (cI _) hn).mono ?_;rintro e w2 ⟨y,rfl,a2,O⟩;go_wp2_with fail
    go_ret;exact⟨HO.trans (Off.of_below O),.inl ⟨HK,y,rfl,a2,v',⟨D.out.1.keep O,D.out.2.below O⟩⟩⟩
  · have HO:=jz Z;have D:=jz R;have a0:=jz J;clear Z R J;go_wp2_with fail
    go_ret;exact⟨HO,.inr ⟨a0,rfl,D⟩⟩
theorem GO(r:Nat)(v:Value)(xs:List Int)(D:Bool)(w:World)(h:RD w r v xs D):
  Calls prog 114 #[.pointer (some ⟨r,0,none⟩)] w λe w'=>e = .returned (.bool (!D && decide (xs.length=0)))/\w=w':=by
 obtain⟨I,hs⟩:=h;obtain⟨A,cap,rfl,J,_,_⟩:=id hs;have K:=I.cell 0;have h1:=I.cell 1;simp only[jf,jg,jh] at K h1;clear I hs;rcases jb D with rfl|rfl
 ·go_enter func114,ntmps114
  go_wp2_with fail
  go_ret;exact⟨rfl,rfl⟩
 ·go_enter func114,ntmps114
  go_wp2_with fail
  go_ret;refine⟨?_,by trivial⟩;by_cases hx:xs=[]
  ·subst hx;rfl
  ·have:xs.length≠0:=λe=>hx (List.eq_nil_of_length_eq_zero e)
   simp[hx,this]
def beB:Nat->Nat->List Int
 | 0,_=>[]
 | m+1,x=>((x/256 ^ m % 256:Nat):Int) :: beB m x
theorem bE:∀ k x,(beB k x).length=k
 | 0,_=>rfl
 | m+1,x=>by simp[beB,bE m x]
theorem fR:∀ k x,Bys (beB k x)
 | 0,_=>λb h=>by simp[beB] at h
 | m+1,x=>λb h=>by
  simp only[beB,jl] at h;rcases h with rfl|h
  ·omega
  ·exact fR m x b h
def kK(k m x:Nat):List Value:=List.replicate (k-m) (Value.int .u8 0)++u8s (beB m x)
theorem AQ(k m x:Nat)(h:m<k):(kK k m x).set (k-1-m) (Value.int .u8 ((x/256 ^ m % 256:Nat):Int))=kK k (m+1) x:=by
 unfold kK;rw[show k-m=(k-(m+1))+1 by omega,List.replicate_succ'];rw[List.append_assoc,List.set_append_right _ _ (by simp;omega)];rw[List.length_replicate,show k-1-m-(k-(m+1))=0 by omega];rfl
theorem nW(z:Value)(n:Nat):(madeCells #[z] n).toList=List.replicate n z:=by
 rw[List.eq_replicate_iff];refine⟨by simp[madeCells],λb hb=>?_⟩;simp only[madeCells,Array.toList_map,Array.toList_range,List.mem_map] at hb;obtain⟨i,_,rfl⟩:=hb;simp[Nat.mod_one]
theorem pX{w:World}{base e n cap g:Nat}{R:List Value}(h:w.ownsRow base e 1 (.slice (some ⟨g,0,none⟩) n cap) n R){j:Nat}{u:Value}(D:R[j]? = some u):w.cell? ⟨g,j,none⟩=some u/\w.frozen? ⟨g,j,none⟩=false:=by
 obtain⟨Z,h|⟨V,K,I,hv,_,U,_,_,_,J⟩⟩:=h
 ·cases h.1
 ·injection hv with hv1 _ hv2
  injection hv1 with hv1
  injection hv1 with hv1 _ _
  subst hv1;have O:Blk w g e I:=U;refine⟨?_,O.frozen j⟩;rw[O.cell];rw[<- J,List.getElem?_take] at D;split at D
  ·simpa using D
  ·cases D
theorem jI(k x:Nat)(w:World)(b3:1<=k)(a4:k<=8)(hx:x<256 ^ k):
  Calls prog 129 #[.int .i64 k,.int .u64 x] w λe w'=>∃ v,e = .returned (.tuple #[v,.bool true])/\w'.ownsRow w.heap.size 5 1 v k (u8s (beB k x))/\Below w.heap.size w w':=by
 have b0:(1:Int)<=k:=by omega
 have b2:(k:Int)<=8:=by omega
 have b7:x<18446744073709551616:=by
  have h1:(256:Nat) ^ k<=256 ^ 8:=Nat.pow_le_pow_right (by omega) a4;have e8:(256:Nat) ^ 8=18446744073709551616:=by decide
  omega
 obtain⟨i,hi,hz,a6,a3⟩:=info_parts (P:=prog) (e:=5) (z:=.int .u8 0) (size:=1) (bytes:=1) (by kernel_rfl);have HX:=jz hx;clear hx;have hsh:((x:Int)/2 ^ (8*k) != 0)=false:=by
  have e1:(256:Nat) ^ k=2 ^ (8*k):=by rw[Nat.pow_mul]
  have e2:((x:Int)/2 ^ (8*k))=((x/2 ^ (8*k):Nat):Int):=by simp
  rw[e2,Nat.div_eq_of_lt (by rw[<- e1];exact HX.out)];rfl
 have I:(madeCells (Value.int .u8 0).cells (k*1)).toList=kK k 0 x:=by
  show(madeCells #[Value.int .u8 0] (k*1)).toList=_;rw[nW];simp[kK,beB,u8s]
 have a0:=jz I;clear I;have R:k<8\/k=8:=by omega
 rcases R with hk|hk
 all_goals
  first|(have a5:(k:Int)<8:=by omega)|(have a5:¬(k:Int)<8:=by omega)
  clear hk;go_enter func129,ntmps129
  go_wp2_with (at_make;refine wpList_make_full _ rfl (.tmp 23) (.tmp 23) 60 rfl w.heap.size 5 i (.int .u8 0) 1 underlying60 hi hz a6 .i64 .i64 (k:Int) (k:Int) k rfl rfl rfl rfl (by rw[a3];omega) (by unfold maxLen;omega) (ja _) ?_;intro w2 K hg)
  rw[a0.out] at K;have a2:Below w.heap.size w w2:=(ji _ w).grown hg (ja _) (λg e=>by cases e);clear hg hsh;go_loopw [7,1] (λi y wr=>∃ m:Nat,m<=k/\i = .int .i64 ((k:Int)-1-m)/\y = .int .u64 (x/256 ^ m)/\wr.ownsRow w.heap.size 5 1 (.slice (some ⟨w.heap.size,0,none⟩) k k) k (kK k m x)/\Below w.heap.size w wr) (λi _ _=>(intOf i+1).toNat)
  case atStart=>exact⟨0,j0 _,by simp,by simp,K,a2⟩
  case round=>
   obtain⟨m,hm,rfl,rfl,D,O⟩:=hrel;by_cases hlt:m<k
   ·have J:=D.stored (k-1-m) (.int .u8 ((x/256 ^ m % 256:Nat):Int));rw[AQ k m x hlt] at J;have ec:((x/256 ^ m % 256:Nat):Int)=(x:Int)/256 ^ m % 256:=by simp
    rw[ec] at J;have V:(kK k m x)[k-1-m]? = some (.int .u8 0):=by
     unfold kK;rw[jy (by simp;omega)];rw[List.getElem?_replicate,jP (by omega)]
    obtain⟨a7,a8⟩:=pX D V;have a1:=jz J.1;have Z:Hid (Below w.heap.size w (wr.setCell ⟨w.heap.size,k-1-m,none⟩ (.int .u8 ((x:Int)/256 ^ m % 256)))):=jz (O.grown J.2 O.size (λg e=>by cases e;exact ja _));have a9:(0:Int)<=(k:Int)-1-m:=by omega
    have b1:(k:Int)-1-m<k:=by omega
    clear J ec V;go_wp2_with fail
    refine⟨⟨m+1,by omega,by go_num,?_,a1,Z⟩,by simp[intOf];omega⟩;have hp:(0:Int)<=256 ^ m:=Int.pow_nonneg (by omega);rw[Int.pow_succ,Int.ediv_ediv_of_nonneg hp]
   ·obtain rfl:m=k:=by omega
    have U:kK m m x=u8s (beB m x):=by simp[kK]
    rw[U] at D;go_wp2_with fail
    go_ret2
    exact⟨_,rfl,D,O⟩
end
section
open Go.RowKit
theorem mJ(l:List Value):∀(k:Nat) (cs:Array Value) (i:Nat),((l.zipIdx k).foldl (fun(cs:Array Value) (x:Value×Nat)=>cs.setIfInBounds x.2 x.1) cs)[i]? = if k<=i/\i<k+l.length/\i<cs.size then l[i-k]? else cs[i]?:=by
 induction l with
 | nil=>intro k cs i;rw[jQ (by simp;omega)];rfl
 | cons v l ih=>
  intro k cs i;rw[List.zipIdx_cons,List.foldl_cons,ih];simp only[Array.size_setIfInBounds,List.length_cons];by_cases h1:k+1<=i/\i<k+1+l.length/\i<cs.size
  ·rw[jP h1,jP (by omega),show i-k=(i-(k+1))+1 by omega,jh]
  ·rw[jQ h1,Array.getElem?_setIfInBounds];by_cases h2:k=i
   ·subst h2;by_cases h3:k<cs.size
    ·rw[jP rfl,jP h3,jP (by omega)];simp
    ·rw[jP rfl,jQ h3,jQ (by omega)];simp[Array.getElem?_eq_none (Nat.le_of_not_lt h3)]
   ·rw[jQ h2,jQ (by omega)]
theorem lK:∀(l:List (Value×Nat)) (cs:Array Value),(l.foldl (fun(cs:Array Value) (x:Value×Nat)=>cs.setIfInBounds x.2 x.1) cs).size=cs.size:=by
 intro l;induction l with
 | nil=>intro cs;rfl
 | cons x l ih=>intro cs;rw[List.foldl_cons,ih,Array.size_setIfInBounds]
theorem dM{b:Nat}{t:TypeId}:∀(vs:List Value) (o:Nat) (w:World) (cur:Array Value),Blk w b t cur->Blk (w.setCells b o vs) b t ((vs.zipIdx o).foldl (fun(cs:Array Value) (x:Value×Nat)=>cs.setIfInBounds x.2 x.1) cur)
 | [],_,_,_,h=>h
 | v :: r,o,w,cur,h=>by
  rw[World.setCells,List.zipIdx_cons,List.foldl_cons];exact dM r (o+1) _ _ (h.set_ o v)
theorem aU{b B:Nat}(J:B<=b):∀(vs:List Value) (o:Nat) (w:World),Below B w (w.setCells b o vs)/\(w.setCells b o vs).heap.size=w.heap.size
 | [],_,w=>⟨ji _ _,rfl⟩
 | v :: r,o,w=>by
  rw[World.setCells];obtain⟨h1,I⟩:=aU J r (o+1) (w.setCell ⟨b,o,none⟩ v);have D:Below B w (w.setCell ⟨b,o,none⟩ v):=⟨rfl,rfl,rfl,by simp,λk K=>Below.heap_setCell w ⟨b,o,none⟩ v k (by show k≠b;omega)⟩;exact⟨D.trans h1,I.trans (by simp)⟩
theorem bF{b k:Nat}(D:k≠b):∀(vs:List Value) (o:Nat) (w:World),(w.setCells b o vs).heap[k]? = w.heap[k]?
 | [],_,_=>rfl
 | v :: r,o,w=>by
  rw[World.setCells,bF D r (o+1) (w.setCell ⟨b,o,none⟩ v)];exact Below.heap_setCell w ⟨b,o,none⟩ v k D
end
section
open Go.RowKit
attribute [local irreducible] wpQuiet wpAnyH
theorem iI(k x:Nat)(w:World)(I:1<=k)(J:k<=8)(K:x<256 ^ k):
  Calls prog 206 #[.int .i64 k,.int .u64 x] w λe w'=>∃ v,e = .returned v/\w'.ownsRow w.heap.size 5 1 v k (u8s (beB k x))/\Below w.heap.size w w':=by
 go_enter func206,ntmps206
 go_wp2_with fail
 refine(jI k x w I J K).mono ?_;rintro e O ⟨v,rfl,D,hb⟩;go_wp2_with fail
 go_ret;exact⟨_,rfl,D,hb⟩
structure Parts(w:World)(va:Value)(ps:List (Value×List Int)):Prop where
 row:Sn w 1 va ps.length (ps.map (·.1))
 part:∀ p∈ps,Sn w 1 p.1 p.2.length (u8s p.2)
theorem Parts.below{w w':World}{D:Value}{ps:List (Value×List Int)}(h:Parts w D ps)(hb:Below w.heap.size w w'):Parts w' D ps:=
 ⟨h.row.below hb,λp I=>(h.part p I).below hb⟩
def d9(ps:List (Value×List Int)):Nat:=(ps.map (λp=>p.2.length)).sum
theorem ED(ps:List (Value×List Int))(k:Nat)(h:k<ps.length):d9 (ps.take (k+1))=d9 (ps.take k)+ps[k].2.length:=by
 unfold d9;rw[j6 h,List.map_append,List.sum_append];simp only[List.map_cons,List.map_nil,List.sum_cons,List.sum_nil,Nat.add_zero]
theorem tK(ps:List (Value×List Int))(k:Nat):d9 (ps.take k)<=d9 ps:=by
 have:d9 ps=d9 (ps.take k)+d9 (ps.drop k):=by
  unfold d9
  conv=>lhs;rw[<- List.take_append_drop k ps]
  rw[List.map_append,List.sum_append]
 omega
def cat(ps:List (Value×List Int)):List Int:=ps.flatMap (·.2)
theorem AR(ps:List (Value×List Int))(k:Nat)(h:k<ps.length):cat (ps.take (k+1))=cat (ps.take k)++ps[k].2:=by
 unfold cat;rw[j6 h,List.flatMap_append];simp only[List.flatMap_cons,List.flatMap_nil,List.append_nil]
theorem n5(ps:List (Value×List Int)):(cat ps).length=d9 ps:=by
 unfold cat d9;rw[List.length_flatMap]
theorem Parts.at{w:World}{A:Option Addr}{cap:Nat}{ps:List (Value×List Int)}(h:Parts w (.slice A ps.length cap) ps)(k:Nat)(O:k<ps.length):
  ∃ b off D I,A=some ⟨b,off,none⟩/\w.cell? ⟨b,off+k,none⟩=some (.slice D ps[k].2.length I)/\Sn w 1 (.slice D ps[k].2.length I) ps[k].2.length (u8s ps[k].2):=by
 obtain⟨V,K,hv,_,Z,U⟩:=h.row;injection hv with hA _ _
 subst hA;obtain⟨b,off,rfl,R⟩:=U (by omega);have J:=h.part ps[k] (List.getElem_mem O);obtain⟨D,I,e,_,_,_⟩:=id J;have:=R k ps[k].1 (by simp[O]);rw[e] at this J;exact⟨b,off,D,I,rfl,this,J⟩
theorem kV(va:Value)(ps:List (Value×List Int))(w:World)(hp:Parts w va ps)(hn:ps.length<=1000)(ht:d9 ps<=1000000):
  Calls prog 127 #[va] w λe w'=>∃ v,e = .returned v/\w'.ownsRow w.heap.size 5 1 v (d9 ps) (u8s (cat ps))/\Below w.heap.size w w':=by
 obtain⟨A,cap,rfl,a9,_,_⟩:=id hp.row;have HP:=jz hp;clear hp;obtain⟨i,hi,hz,a8,a4⟩:=info_parts (P:=prog) (e:=5) (z:=.int .u8 0) (size:=1) (bytes:=1) (by kernel_rfl);go_enter func127,ntmps127
 go_wp2_with fail
 go_loopw [11,3] (λi n wr=>∃ k:Nat,k<=ps.length/\i = .int .i64 k/\n = .int .i64 (d9 (ps.take k))/\wr=w) (λi _ _=>ps.length-(intOf i).toNat)
 case atStart=>exact⟨0,j0 _,rfl,rfl,rfl⟩
 case round=>
  obtain⟨k,hk,rfl,rfl,hw⟩:=hrel;rw[hw];clear hw;by_cases hlt:k<ps.length
  ·obtain⟨b,off,A',c',rfl,hc,_⟩:=HP.at k hlt;have J:=ED ps k hlt;have h1:=tK ps k;have Z:=tK ps (k+1);rw[J] at Z;have I:=jz J;obtain⟨m,hm⟩:=je (ps[k].2.length);obtain⟨y,hy⟩:=je (d9 (ps.take k));rw[<- hm] at hc Z I;rw[<- hy] at h1 Z I ⊢;have a6:(0:Int)<=k:=by omega
   have a7:(k:Int)<ps.length:=by omega
   clear hm hy J;go_wp2_with fail
   refine⟨⟨k+1,by omega,by go_num,?_,by trivial⟩,by simp[intOf];omega⟩;rw[I.out];simp
  ·obtain rfl:k=ps.length:=by omega
   rw[List.take_length];obtain⟨T,hT⟩:=je (d9 ps);have HT:=jz hT;rw[<- hT] at ht ⊢;clear hT;go_wp2_with (at_make;refine wpList_make_own _ rfl (.const (.int .i64 0)) (.tmp 20) 60 rfl w.heap.size 5 i (.int .u8 0) 1 underlying60 hi hz a8 .i64 .i64 (T:Int) T rfl rfl rfl (by rw[a4];omega) (by unfold maxLen;omega) (ja _) ?_;intro w2 V hg)
   have a2:Below w.heap.size w w2:=(ji _ w).grown hg (ja _) (λg e=>by cases e);clear hg;go_loopw [24,6] (λi v wr=>∃ k:Nat,k<=ps.length/\i = .int .i64 k/\wr.ownsRow w.heap.size 5 1 v (cat (ps.take k)).length (u8s (cat (ps.take k)))/\Below w.heap.size w wr) (λi _ _=>ps.length-(intOf i).toNat)
   case atStart=>exact⟨0,j0 _,rfl,V,a2⟩
   case round=>
    obtain⟨k,hk,rfl,D,O⟩:=hrel;by_cases hlt:k<ps.length
    ·obtain⟨b,off,A',c',rfl,hc,U⟩:=(HP.below O).at k hlt;have J:=AR ps k hlt;have K:=n5 (ps.take (k+1));have Z:=tK ps (k+1);have a1:=HT.out;rw[J] at K;have I:=jz J;obtain⟨x,hx⟩:=je (ps[k].2);obtain⟨y,hy⟩:=je (cat (ps.take k));rw[<- hx] at hc U I K;rw[<- hy] at D I K;have a0:=jz U;have b1:y.length+x.length<=1000000:=by
      rw[jj] at K;omega
     have b0:=O.size;have a6:(0:Int)<=k:=by omega
     have a7:(k:Int)<ps.length:=by omega
     clear U hx hy J K a1;go_wp2_with (at_builtin;refine app fQ (.tmp 28) (.tmp 29) rfl rfl rfl D rfl a0 (cI x) (by unfold maxLen;omega) (by omega) (by omega) ?_;intro v4 w4 R a5 _)
     have a3:Below w.heap.size w w4:=O.grown a5 (by omega) (λg hg=>(D.lt g hg).1);refine⟨⟨k+1,by omega,by go_num,?_,a3⟩,by simp[intOf];omega⟩;rw[I.out,jj,fH];exact R
    ·obtain rfl:k=ps.length:=by omega
     rw[List.take_length] at D;go_wp2_with fail
     go_ret;refine⟨_,rfl,?_,O⟩;rw[HT.out,<- n5];exact D
end
section
open Go.RowKit
section
variable {P : Program} {ops : Array Oper} {rest : List Oper} {o : Oper} {a : Act} {w : World} {Q : Exit -> Act -> World -> Prop}
theorem al(ty:TypeId)(zs:Array Value)(I:o.op = .alloc ty)(J:Region.wanted o (yielded ops a.tmps)=true)(O:∀ w,(zeroValue ty).run P w = .ok (.agg zs) w)
  (h:wpList P ops Q rest (a.put o.dst (.pointer (some ⟨w.heap.size,0,none⟩))) (w.alloc (.cells zs ty))):wpList P ops Q (o :: rest) a w:=
 wpList_step λK D=>by
  rw[jP J];unfold Oper.wp;have:(execOp a.eval o).run P w = .ok (.value (.pointer (some ⟨w.heap.size,0,none⟩))) (w.alloc (.cells zs ty)):=by
   unfold execOp;simp only[I];unfold Instr.alloc newVar newRow;simp[Sem.run_bind,O,Value.cells]
  rw[this,Oper.upon_value];exact D _ _ h
theorem mK{dT sT ty elem:TypeId}{b off dn dc n:Nat}{v:Value}{I:List Value}(R:P.underlying dT=some (.slice elem))(hs:(P.info? elem).map (·.size)=some 1)(hx:Sn w 1 v n I)(Z:n<=dn)(ht:w.there b off n)(h1:∀ u∈I,u.oneCell'=true):
  (Builtin.copy_ #[dT,sT] ty #[.slice (some ⟨b,off,none⟩) dn dc,v]).run P w = .ok (goInt n) (w.setCells b off I):=by
 obtain⟨A,cap,rfl,hc,V,D⟩:=hx;rcases Nat.eq_zero_or_pos n with rfl|hp
 ·obtain rfl:I=[]:=List.eq_nil_of_length_eq_zero (by simpa using V);cases A with
  | none=>
   cases hq:P.info? elem with
   | none=>simp[hq] at hs
   | some i=>simp[Builtin.copy_,run_underlying R,Builtin.lenOf,Builtin.firstCells,sizeOf,typeInfo,hq,storeCells,World.setCells]
  | some a=>exact run_copy_cells w dT sT ty elem b off dn dc a 0 cap [] R hs (by simp) (λj v h=>by simp at h) (λj h=>by simp at h) (λj h=>by simp at h) (λv h=>by simp at h)
 ·obtain⟨U,K,rfl,hr⟩:=D hp;have J:I.length=n:=by omega
  have:=run_copy_cells w dT sT ty elem b off dn dc ⟨U,K,none⟩ n cap I R hs (by rw[J];exact(Nat.min_eq_left Z).symm) (λj v O=>by rw[Addr.add_mid];exact hr j v O) (λj O=>(ht j (by omega)).1) (λj O=>(ht j (by omega)).2) h1;rw[J] at this;exact this
theorem cp{dT sT elem:TypeId}(p q:Operand)(O:o.op = .call { callee:=.builtin .copy,args:=#[p,q],argTypes:=#[dT,sT] })(Z:Region.wanted o (yielded ops a.tmps)=true)
  {b off dn dc n:Nat} {v:Value} {D:List Value} (R:a.eval p = .slice (some ⟨b,off,none⟩) dn dc) (U:a.eval q=v) (V:P.underlying dT=some (.slice elem)) (hs:(P.info? elem).map (·.size)=some 1) (hx:Sn w 1 v n D) (J:n<=dn) (ht:w.there b off n) (h1:∀ u∈D,u.oneCell'=true)
  (h:wpList P ops Q rest (a.put o.dst (goInt n)) (w.setCells b off D)):wpList P ops Q (o :: rest) a w:=
 wpList_step λK I=>by
  rw[jP Z];have hrun:=mK (P:=P) (ty:=o.type) (sT:=sT) (dc:=dc) V hs hx J ht h1;unfold Oper.wp execOp;simp only[O,resolve,invoke,builtin,Sem.run_bind,Sem.run_pure,Result.andThen_ok,List.map_toArray,List.map_cons,List.map_nil,R,U,hrun];exact I _ _ h
theorem TG{S:World->Prop}{listed:Array Bool}{fuel:Nat}{I:List Nat}(i:Nat){dT sT elem:TypeId}(p q:Operand)(dst:Option Tmp)(hd:(ops[i]?).map (λo=>(o.op,o.dst))=some (.call { callee:=.builtin .copy,args:=#[p,q],argTypes:=#[dT,sT] },dst))(Z:(ops[i]?).map (λo=>Region.wanted o (yielded ops a.tmps))=some true)
  {b off dn dc n:Nat} {v:Value} {D:List Value} (O:a.eval p = .slice (some ⟨b,off,none⟩) dn dc) (R:a.eval q=v) (V:P.underlying dT=some (.slice elem)) (hs:(P.info? elem).map (·.size)=some 1) (hx:Sn w 1 v n D) (J:n<=dn) (ht:w.there b off n) (h1:∀ u∈D,u.oneCell'=true) (hS:S (w.setCells b off D))
  (h:wpAnyH P .any ops Q S fuel (listed.setIfInBounds i true) (a.put dst (goInt n)) (w.setCells b off D)) (U:AllReadyH P .any ops Q S fuel listed a w I):AllReadyH P .any ops Q S fuel listed a w (i :: I):=
 AO i _ dst _ _ hd Z (λo K=>by
  have hrun:=mK (P:=P) (ty:=o.type) (sT:=sT) (dc:=dc) V hs hx J ht h1
  unfold execOp
  simp only[K,resolve,invoke,builtin,Sem.run_bind,Sem.run_pure,Result.andThen_ok,List.map_toArray,List.map_cons,List.map_nil,O,R,hrun]) hS h U
theorem aD{fn:Func}{p u:Tmp}{ty:TypeId}(h:fn.results=#[.cell p ty,.tmp u])(tmps:Array Value){b off:Nat}{cs:List Value}{d:TypeDesc}(I:tmps.getD p undef = .pointer (some ⟨b,off,none⟩))(D:w.rangeAt b off cs)
  (J:P.underlying ty=some d) (hd:d.isRow=true) (hi:(P.info? ty).map (·.size)=some cs.length):(results fn tmps).run P w = .ok (.tuple #[.agg cs.toArray,tmps.getD u undef]) w:=by
 rw[results_cell_tmp h,I];simp only[asAddr,Sem.run_pure,Result.andThen_ok,run_loadVar_mid w b off ty cs d D J hd hi]
end
end
section
open Go.RowKit
def RU:Value->Option (DataW Value×List MemPlace):=λv=>some (.held v,[])
theorem ikeyed:Maps.Keyed prog 3:=Maps.int_keyed underlying3
theorem I9{k:Int}(h:aI k):keyOf prog 3 (.int .i64 k)=some (.int .i64 k):=Maps.keyOf_int_mk underlying3 (LP h)
def UFits(D:DataW Value)(f:Int->Option Value):Prop:=∀ k,aI k->match f k with
 | none=>Maps.has D (.int .i64 k)=false
 | some v=>Maps.has D (.int .i64 k)=true/\∀ z,D.atKey (.int .i64 k) z = .held v
def UM(w:World)(b n:Nat)(f:Int->Option Value):Prop:=∃ D,w.ownsMap prog 3 RU b n D/\UFits D f
def JA(f:Int->Option Value)(k:Int)(v:Value):Int->Option Value:=λx=>if x=k then some v else f x
def sH(f:Int->Option Value)(k:Int):Int->Option Value:=λx=>if x=k then none else f x
theorem UM.lt{w:World}{b n:Nat}{f:Int->Option Value}(h:UM w b n f):b<w.heap.size:=by
 obtain⟨D,h,_⟩:=h;exact h.lt
theorem UM.of_block{w w':World}{b n:Nat}{f:Int->Option Value}(h:UM w b n f)(e:w'.heap[b]? = w.heap[b]?):UM w' b n f:=by
 obtain⟨D,⟨I,clock,hb,r⟩,J⟩:=h;exact⟨D,⟨I,clock,e.trans hb,r⟩,J⟩
theorem UM.keep{w w':World}{b n:Nat}{f:Int->Option Value}(h:UM w b n f)(hb:Below w.heap.size w w'):UM w' b n f:=h.of_block (hb.block b h.lt)
theorem UM.mono{w:World}{b n m:Nat}{f:Int->Option Value}(h:UM w b n f)(J:n<=m):UM w b m f:=by
 obtain⟨D,h,I⟩:=h;exact⟨D,h.mono J,I⟩
theorem UM.made(w:World):UM (w.alloc (.map #[] 0)) w.heap.size 0 (λ_=>none):=
 ⟨.map [],World.ownsMap_made _ _ _ _,λ_ _=>rfl⟩
theorem UM.madeAt(w:World)(b:Nat)(hb:w.heap.size=b):UM (w.alloc (.map #[] 0)) b 0 (λ_=>none):=by
 subst hb;exact UM.made w
theorem UM.congr{w:World}{b n:Nat}{f f':Int->Option Value}(h:UM w b n f)(e:∀ k,aI k->f k=f' k):UM w b n f':=by
 obtain⟨D,h,J⟩:=h;exact⟨D,h,λk I=>by rw[<- e k I];exact J k I⟩
theorem UFits.has{D:DataW Value}{f:Int->Option Value}(h:UFits D f){k:Int}(I:aI k):Maps.has D (.int .i64 k)=(f k).isSome:=by
 have:=h k I;cases hf:f k with
 | none=>rw[hf] at this;exact this
 | some v=>rw[hf] at this;exact this.1
theorem UFits.at{D:DataW Value}{f:Int->Option Value}(h:UFits D f){k:Int}(I:aI k)(z:Value):D.atKey (.int .i64 k) (.held z) = .held ((f k).getD z):=by
 have:=h k I;cases hf:f k with
 | none=>rw[hf] at this;exact Maps.atKey_of_not_has this _
 | some v=>rw[hf] at this;exact this.2 _
section
variable {w : World} {b n : Nat} {f : Int -> Option Value} {tM e : TypeId} (ht : prog.underlying tM = some (.map 3 e))
include ht
theorem UM.look(h:UM w b n f){z:Value}(R:(zeroValue e).run prog w = .ok z w){k:Int}(K:aI k):
  (Instr.lookup tM (.map (some b)) (.int .i64 k) true).run prog w = .ok (.tuple #[(f k).getD z,.bool (f k).isSome]) w:=by
 obtain⟨D,I,O⟩:=h;obtain⟨v,ps,hrun,J⟩:=I.look_ok ikeyed ht R (zd:=.held z) (zp:=[]) rfl (I9 K);rw[O.has K] at hrun;rw[O.at K] at J;have J:=congrArg (λo:Option (DataW Value×List MemPlace)=>match o with|some (.held x,_)=>x|_=>undef) J;dsimp only [RU] at J;subst J;exact hrun
theorem UM.look1(h:UM w b n f){z:Value}(R:(zeroValue e).run prog w = .ok z w){k:Int}(K:aI k):
  (Instr.lookup tM (.map (some b)) (.int .i64 k) false).run prog w = .ok ((f k).getD z) w:=by
 obtain⟨D,I,O⟩:=h;obtain⟨v,ps,hrun,J⟩:=I.lookup ikeyed ht R (zd:=.held z) (zp:=[]) rfl (I9 K);rw[O.at K] at J;have J:=congrArg (λo:Option (DataW Value×List MemPlace)=>match o with|some (.held x,_)=>x|_=>undef) J;dsimp only [RU] at J;subst J;exact hrun
theorem UM.put_run(h:UM w b n f){k:Int}(V:aI k)(v:Value)(Z:n<maxLen):
  ∃ w',(Instr.mapUpdate tM (.map (some b)) (.int .i64 k) v).run prog w = .ok () w'/\UM w' b (n+1) (JA f k v)/\w.mapTurned w' b:=by
 obtain⟨D,I,U⟩:=h;obtain⟨w',hrun,R,K⟩:=I.store ikeyed ht Z (I9 V) (val:=v) (d:=.held v) (ps:=[]) rfl;refine⟨w',hrun,⟨_,R,λx O=>?_⟩,K⟩;unfold JA;by_cases hxk:x=k
 ·subst hxk;rw[jP rfl];exact⟨Maps.has_put_same I.isMap (ikeyed.key (I9 O)) _,λz=>Maps.atKey_put_same I.isMap (ikeyed.key (I9 O)) _ z⟩
 ·rw[jQ hxk];have J:(Lit.int .i64 x)≠.int .i64 k:=λe=>hxk (by injection e)
  have:=U x O;cases hfx:f x with
  | none=>rw[hfx] at this;exact(Maps.has_put_other J _).trans this
  | some t'=>
   rw[hfx] at this;exact⟨(Maps.has_put_other J _).trans this.1,λz=>(Maps.atKey_put_other J _ z).trans (this.2 z)⟩
theorem UM.del_run(h:UM w b n f){k:Int}(U:aI k)(ty:TypeId):
  ∃ w',(Builtin.delete_ #[tM,3] ty #[.map (some b),.int .i64 k]).run prog w = .ok (.tuple #[]) w'/\UM w' b n (sH f k)/\w.mapTurned w' b:=by
 obtain⟨D,J,R⟩:=h;obtain⟨w',hrun,O,K⟩:=J.drop ikeyed ht (I9 U) ty;refine⟨w',hrun,⟨_,O,λx V=>?_⟩,K⟩;unfold sH;by_cases hxk:x=k
 ·subst hxk;rw[jP rfl];exact Maps.has_del_same
 ·rw[jQ hxk];have I:(Lit.int .i64 x)≠.int .i64 k:=λe=>hxk (by injection e)
  have:=R x V;cases hfx:f x with
  | none=>rw[hfx] at this;exact(Maps.has_del_other I).trans this
  | some t'=>
   rw[hfx] at this;exact⟨(Maps.has_del_other I).trans this.1,λz=>(Maps.atKey_del_other I z).trans (this.2 z)⟩
theorem UM.clear_run(h:UM w b n f)(ty:TypeId):
  ∃ w',(Builtin.clear_ #[tM] ty #[.map (some b)]).run prog w = .ok (.tuple #[]) w'/\UM w' b n (λ_=>none)/\w.mapTurned w' b:=by
 obtain⟨D,⟨I,clock,hb,F,hs,K⟩,O⟩:=h;refine⟨ChangeMaps.setBlock w b (.map #[] clock),?_,⟨.map [],⟨#[],clock,?_,?_,j0 _,rfl⟩,λ_ _=>rfl⟩,⟨I,clock,#[],clock,hb,rfl⟩⟩
 ·simp[Builtin.clear_,run_underlying ht,MapKept.run_getObj_map hb,MapKept.run_setObj_map _ hb,Result.andThen];rfl
 ·exact ChangeMaps.heap_setBlock_same hb _
 ·exact⟨j0 _,by simp[MapKept.Stamped],λx J=>by simp at J⟩
end
end
section
open Go.RowKit
def z64:Array Value:=(u8s (List.replicate 64 0)).toArray
def pad(l:List Int):List Int:=l++List.replicate (64-l.length) 0
theorem tL(l:List Int)(h:l.length<=64):(pad l).length=64:=by simp[pad];omega
theorem QB{l:List Int}(h:Bys l):Bys (pad l):=λb hb=>by
 unfold pad at hb;rcases List.mem_append.1 hb with hb|hb
 ·exact h b hb
 ·have:=(List.mem_replicate.1 hb).2;omega
theorem cT:z64.size=64:=by simp[z64,u8s]
theorem tN(cs:Array Value)(n:Nat)(I:cs.size=n)(xs:List Value)(off:Nat)(h:off+xs.length<=n)(i:Nat):((xs.zipIdx off).foldl (fun(cs:Array Value) (x:Value×Nat)=>cs.setIfInBounds x.2 x.1) cs)[i]? = if off<=i/\i<off+xs.length then xs[i-off]? else cs[i]?:=by
 rw[mJ,I];by_cases h1:off<=i/\i<off+xs.length
 ·rw[jP ⟨h1.1,h1.2,by omega⟩,jP h1]
 ·rw[jQ (λD=>h1 ⟨D.1,D.2.1⟩),jQ h1]
theorem QC(l:List Int)(h:l.length<=64):((u8s l).zipIdx 0).foldl (fun(cs:Array Value) (x:Value×Nat)=>cs.setIfInBounds x.2 x.1) z64=(u8s (pad l)).toArray:=by
 apply Array.ext_getElem?;intro i;rw[tN z64 64 cT (u8s l) 0 (by rw[aK];omega),aK,show(u8s (pad l)).toArray[i]? = (u8s (pad l))[i]? by simp];unfold pad;rw[fH];by_cases h1:i<l.length
 ·rw[jP ⟨j0 _,by omega⟩,jy (by rw[aK];exact h1),Nat.sub_zero]
 ·rw[jQ (by omega),jx (by rw[aK];omega),aK];unfold z64;simp only[u8s,List.map_replicate,jf,List.getElem?_replicate];by_cases h2:i<64
  ·rw[jP h2,jP (by omega)]
  ·rw[jQ h2,jQ (by omega)]
attribute [irreducible] z64 pad
theorem dH:∀ w,(zeroValue 195).run prog w = .ok (.agg z64) w:=λw=>by unfold z64;kernel_rfl
theorem AS(vb:Value)(l:List Int)(w:World)(hs:Sn w 1 vb l.length (u8s l))(hl:l.length<=64):
  Calls prog 205 #[vb] w λe w'=>e = .returned (.tuple #[.agg (u8s (pad l)).toArray,.bool true])/\Below w.heap.size w w':=by
 obtain⟨A,cap,rfl,b3,_,_⟩:=id hs;have HS:=jz hs;have b7:¬(64:Int)<l.length:=by omega
 have b1:=tL l hl;have K:(u8s (pad l)).length=64:=by rw[aK,b1]
 have b2:=cI l;clear hs;obtain⟨R,I⟩:=je ((w.alloc (.cells z64 195)).alloc (.cells z64 195));have V:Blk R w.heap.size 195 z64:=by rw[I];exact(Blk.new w _ _).alloc _
 have J:Blk R (w.heap.size+1) 195 z64:=by rw[I];exact Blk.newAt _ _ _ _ (by simp)
 have Z:Below w.heap.size w R:=by rw[I];exact(by repeat (first|exact ji _ _|assumption|refine dG ?_ _|refine Below.setCell ?_ (by first|exact ja _|assumption|omega|(simp <;> omega)) _|refine Below.alloc ?_ (by first|exact ja _|assumption|omega|(simp <;> omega)) _))
 have a2:Sn R 1 (.slice A l.length cap) l.length (u8s l):=by rw[I];exact(HS.alloc _).alloc _
 have a3:R.there (w.heap.size+1) 0 l.length:=λj hj=>⟨by
  rw[J.cell,Array.getElem?_eq_getElem (by rw[cT];omega)];rfl,J.frozen _⟩
 have D:=dM (u8s l) 0 R z64 J;rw[QC l hl] at D;have O:Blk (R.setCells (w.heap.size+1) 0 (u8s l)) w.heap.size 195 z64:=(bF (by omega) _ _ _).trans V;have a0:Below w.heap.size w (R.setCells (w.heap.size+1) 0 (u8s l)):=Z.trans (aU (by omega) _ _ _).1;have U:=D.range;rw[jt] at U;have hz:z64.size=(u8s (pad l)).toArray.size:=by rw[cT];simp[K]
 have a4:=jz O;have a5:=jz a0;have a6:=jz U;have a8:=jz a3;have a7:=jz a2;clear V J Z a2 a3 D O a0 U;have h1:=dL (pad l);subst I;go_enter func205,ntmps205
 go_wp2_with (first
  | (refine al 195 z64 rfl rfl dH ?_)
  | (refine cp (.tmp 9) (.tmp 10) rfl rfl rfl rfl underlying60 (by kernel_rfl) a7 hl a8 b2 ?_)
  | (refine ld 195 _ rfl rfl rfl a6 underlying195 rfl (by rw[K];kernel_rfl) ?_)
  | (refine aN 195 (.tmp 2) (.tmp 12) rfl rfl rfl rfl a4 (by simp only[js,K];kernel_rfl) hz h1 ?_;intro w3 a9 b0 _ _))
 have a1:=a9.range;rw[jt] at a1;refine bodyPost_ret (aD rfl _ rfl a1 underlying195 rfl (by rw[K];kernel_rfl)) rfl ⟨rfl,a5.trans b0⟩
structure DiskM where
 g:Nat
 sv:Value
 ov:Value
 bl:Nat
 bf:Nat
 bc:Nat
 fv:Int->Option Value
 cv:Int->Option Value
structure DiskD where
 sec:List (List Int)
 opn:List (Int×List Int)
 down:Bool
 steps:Nat
 fl:Int->Bool
 cr:Int->Option (List Int)
 room:Nat
def aZ(m:DiskM):List Nat:=[m.g,m.bl,m.bf,m.bc]++(m.sv.ownBlock.toList++m.ov.ownBlock.toList)
def wrC(p:Int×List Int):List Value:=.int .i64 p.1 :: u8s p.2
def eJ(l:List (Int×List Int)):Int->Option Value:=l.zipIdx.foldl (λf p=>JA f p.1.1 (.int .i64 (p.2:Nat))) (λ_=>none)
def rdD(d:DiskD)(at_:Int):List Int:=(((d.opn.filter (λp=>p.1 == at_)).getLast?).map (·.2)).getD (d.sec.getD at_.toNat [])
def eX(m:DiskM)(d:DiskD):Array Value:=#[m.sv,m.ov,.map (some m.bl),.bool d.down,.int .i64 d.steps,.map (some m.bf),.map (some m.bc)]
def Sec(s:List Int):Prop:=s.length=64/\Bys s
structure DOk(d:DiskD):Prop where
 sec:∀ s∈d.sec,Sec s
 opn:∀ p∈d.opn,0<=p.1/\p.1<d.sec.length/\Sec p.2
 few:d.sec.length<=4096
 lo:d.opn.length<=d.room
 st:d.steps<=d.room
 rm:d.room<=100000
 cl:∀ k cs,d.cr k=some cs->cs.length<=1000000
structure DK(w:World)(m:DiskM)(d:DiskD):Prop where
 blk:Blk w m.g 90 (eX m d)
 sec:w.ownsRow 0 195 64 m.sv d.sec.length (d.sec.flatMap u8s)
 opn:w.ownsRow 0 197 65 m.ov d.opn.length (d.opn.flatMap wrC)
 last:UM w m.bl d.room (eJ d.opn)
 fl:UM w m.bf d.room m.fv
 cr:UM w m.bc d.room m.cv
 nd:(aZ m).Nodup
 flv:∀ k,aI k->(m.fv k).getD (.bool false) = .bool (d.fl k)
 crv:∀ k,aI k->match d.cr k with
  | none=>m.cv k=none
  | some cs=>∃ v,m.cv k=some v/\Sn w 1 v cs.length (yU cs)/\∀ b,v.ownBlock=some b->b ∉ aZ m/\b<w.heap.size
 ok:DOk d
structure Fo(F:List Nat)(w w':World):Prop where
 os:w'.os=w.os
 tape:w'.tape=w.tape
 output:w'.output=w.output
 size:w.heap.size<=w'.heap.size
 block:∀ k,k<w.heap.size->k ∉ F->w'.heap[k]? = w.heap[k]?
section
variable {F G : List Nat} {w w' w'' : World}
theorem Fo.of_below(h:Below w.heap.size w w'):Fo F w w':=⟨h.os,h.tape,h.output,h.size,λk D _=>h.block k D⟩
theorem Fo.refl:Fo F w w:=⟨rfl,rfl,rfl,ja _,λ_ _ _=>rfl⟩
theorem Fo.trans(h:Fo F w w')(k:Fo G w' w'')(I:∀ x∈G,x∈F\/w.heap.size<=x):Fo F w w'':=
 ⟨k.os.trans h.os,k.tape.trans h.tape,k.output.trans h.output,jm h.size k.size,λi hi D=>(k.block i (jp hi h.size) (λJ=>(I i J).elim D λh1=>by omega)).trans (h.block i hi D)⟩
theorem Fo.trans_same(h:Fo F w w')(k:Fo F w' w''):Fo F w w'':=h.trans k λ_ h=>.inl h
theorem Fo.off{b:Nat}(h:Off b w w')(hb:b∈F):Fo F w w':=⟨h.os,h.tape,h.output,h.size,λk I D=>h.block k I λe=>D (e ▸ hb)⟩
theorem Fo.below{B:Nat}(h:Fo F w w')(D:∀ k∈F,B<=k)(J:B<=w.heap.size):Below B w w':=⟨h.os,h.tape,h.output,h.size,λk K=>h.block k (by omega) λI=>by have:=D k I;omega⟩
theorem Fo.set(h:Fo F w w')(b i:Nat)(hb:b∈F)(u:Value):Fo F w (w'.setCell ⟨b,i,none⟩ u):=
 ⟨h.os,h.tape,h.output,by simpa using h.size,λk I D=>(Below.heap_setCell w' ⟨b,i,none⟩ u k (λe=>D (e ▸ hb))).trans (h.block k I D)⟩
theorem Fo.drew(h:Fo F w w'):Fo F w w'.drew:=⟨h.os,h.tape,h.output,h.size,h.block⟩
theorem Fo.cell(h:Fo F w w'){a:Addr}{v:Value}(D:w.cell? a=some v)(I:a.block ∉ F):w'.cell? a=some v:=by
 have:=h.block a.block (eQ D) I;unfold World.cell? at D ⊢;rw[this];exact D
theorem Fo.sn{s n:Nat}{v:Value}{J:List Value}(h:Fo F w w')(hs:Sn w s v n J)(I:∀ b,v.ownBlock=some b->b ∉ F):Sn w' s v n J:=by
 obtain⟨A,cap,rfl,K,R,V⟩:=hs;refine⟨A,cap,rfl,K,R,λU=>?_⟩;obtain⟨b,off,rfl,D⟩:=V U;exact⟨b,off,rfl,λj u O=>h.cell (D j u O) (I b rfl)⟩
end
theorem aS{w w':World}{base e s n:Nat}{v:Value}{I:List Value}(h:w.ownsRow base e s v n I)(hb:∀ b,v.ownBlock=some b->w'.heap[b]? = w.heap[b]?):w'.ownsRow base e s v n I:=by
 refine⟨h.1,?_⟩;rcases h.2 with J|⟨g,cap,D,rfl,hg,K,r⟩
 ·exact .inl J
 ·exact .inr ⟨g,cap,D,rfl,hg,by rw[hb g rfl];exact K,r⟩
theorem iB(m:DiskM):m.g∈aZ m:=by simp[aZ]
theorem nD(m:DiskM):m.bl∈aZ m:=by simp[aZ]
theorem sR(m:DiskM):m.bf∈aZ m:=by simp[aZ]
theorem sS(m:DiskM):m.bc∈aZ m:=by simp[aZ]
theorem oY{m:DiskM}{b:Nat}(h:m.sv.ownBlock=some b):b∈aZ m:=by simp[aZ,h]
theorem sU{m:DiskM}{b:Nat}(h:m.ov.ownBlock=some b):b∈aZ m:=by simp[aZ,h]
section
variable {w w' : World} {m : DiskM} {d : DiskD}
theorem DK.foot_lt(h:DK w m d):∀ k∈aZ m,k<w.heap.size:=by
 intro k D;simp only[aZ,ju,jl,j8,or_false,Option.mem_toList] at D;rcases D with (rfl|rfl|rfl|rfl)|D|D
 ·exact h.blk.lt
 ·exact h.last.lt
 ·exact h.fl.lt
 ·exact h.cr.lt
 ·exact(h.sec.lt k D).2
 ·exact(h.opn.lt k D).2
theorem DK.of_blocks(h:DK w m d)(hb:∀ k,k<w.heap.size->w'.heap[k]? = w.heap[k]?)(I:w.heap.size<=w'.heap.size):DK w' m d where
 blk:=(hb m.g h.blk.lt).trans h.blk
 sec:=aS h.sec λb K=>hb b (h.sec.lt b K).2
 opn:=aS h.opn λb K=>hb b (h.opn.lt b K).2
 last:=h.last.of_block (hb _ h.last.lt)
 fl:=h.fl.of_block (hb _ h.fl.lt)
 cr:=h.cr.of_block (hb _ h.cr.lt)
 nd:=h.nd
 flv:=h.flv
 crv:=λk U=>by
  have:=h.crv k U;cases hc:d.cr k with
  | none=>rw[hc] at this;exact this
  | some cs=>
   rw[hc] at this;obtain⟨v,h1,R,O⟩:=this;refine⟨v,h1,R.keep λa u J=>?_,λb hb=>⟨(O b hb).1,jp (O b hb).2 I⟩⟩;have D:=eQ J;unfold World.cell? at J ⊢;rw[hb _ D];exact J
 ok:=h.ok
theorem DK.keep(h:DK w m d)(hb:Below w.heap.size w w'):DK w' m d:=h.of_blocks hb.block hb.size
theorem DK.drew(h:DK w m d):DK w.drew m d:=h.of_blocks (λ_ _=>rfl) (ja _)
structure DT(w:World)(m:DiskM)(w':World)(m':DiskM):Prop where
 g:m'.g=m.g
 fo:Fo (aZ m) w w'
 sub:∀ k∈aZ m',k∈aZ m\/w.heap.size<=k
 cv:∀ k v,m'.cv k=some v->m.cv k=some v\/∀ b,v.ownBlock=some b->w.heap.size<=b
theorem DT.refl:DT w m w m:=⟨rfl,Fo.refl,λ_ h=>.inl h,λ_ _ h=>.inl h⟩
theorem DT.trans{w'':World}{m' m'':DiskM}(h:DT w m w' m')(k:DT w' m' w'' m''):DT w m w'' m'':=
 ⟨k.g.trans h.g,h.fo.trans k.fo h.sub,λx D=>by
  rcases k.sub x D with h1|h1
  ·exact h.sub x h1
  ·exact .inr (jm h.fo.size h1),λx v D=>by
  rcases k.cv x v D with h1|h1
  ·exact h.cv x v h1
  ·exact .inr (λb e=>jm h.fo.size (h1 b e))⟩
theorem DT.of_below(h:Below w.heap.size w w'):DT w m w' m:=⟨rfl,Fo.of_below h,λ_ h=>.inl h,λ_ _ h=>.inl h⟩
theorem DT.le{B:Nat}{m':DiskM}(h:DT w m w' m')(D:∀ k∈aZ m,B<=k)(J:B<=w.heap.size):∀ k∈aZ m',B<=k:=λk I=>by
 rcases h.sub k I with h1|h1
 ·exact D k h1
 ·omega
theorem DT.below{B:Nat}{m':DiskM}(h:DT w m w' m')(I:∀ k∈aZ m,B<=k)(D:B<=w.heap.size):Below B w w':=h.fo.below I D
end
section
variable {w w' : World} {m m' : DiskM} {d d' : DiskD}
theorem DK.re(h:DK w m d)(hg:m'.g=m.g)(F:List Nat)(hF:∀ k∈F,k∈aZ m)(ho:∀ k,k<w.heap.size->k ∉ F->w'.heap[k]? = w.heap[k]?)(V:w.heap.size<=w'.heap.size)
  (blk:Blk w' m.g 90 (eX m' d'))
  (sec:w'.ownsRow 0 195 64 m'.sv d'.sec.length (d'.sec.flatMap u8s))
  (opn:w'.ownsRow 0 197 65 m'.ov d'.opn.length (d'.opn.flatMap wrC))
  (last:UM w' m'.bl d'.room (eJ d'.opn)) (fl:UM w' m'.bf d'.room m'.fv) (cr:UM w' m'.bc d'.room m'.cv)
  (nd:(aZ m').Nodup) (R:∀ b∈aZ m',b∈aZ m\/w.heap.size<=b)
  (flv:∀ k,aI k->(m'.fv k).getD (.bool false) = .bool (d'.fl k))
  (O:∀ k,aI k->(d'.cr k=none/\m'.cv k=none)\/(d'.cr k=d.cr k/\m'.cv k=m.cv k)) (ok:DOk d'):DK w' m' d' where
 blk:=by rw[hg];exact blk
 sec:=sec
 opn:=opn
 last:=last
 fl:=fl
 cr:=cr
 nd:=nd
 flv:=flv
 crv:=λk hk=>by
  rcases O k hk with ⟨h1,I⟩|⟨h1,I⟩
  ·rw[h1];exact I
  ·have J:=h.crv k hk;rw[h1];cases hc:d.cr k with
   | none=>rw[hc] at J;exact I.trans J
   | some cs=>
    rw[hc] at J;obtain⟨v,hv,hs,hb⟩:=J;refine⟨v,I.trans hv,?_,λb e=>⟨λU=>?_,jp (hb b e).2 V⟩⟩
    ·obtain⟨A,cap,rfl,K,hl,hx⟩:=hs;refine⟨A,cap,rfl,K,hl,λhp=>?_⟩;obtain⟨b,off,rfl,D⟩:=hx hp;exact⟨b,off,rfl,λj u hj=>(World.cell?_of_block (a:=⟨b,off+j,none⟩) (ho b (hb b rfl).2 (λU=>(hb b rfl).1 (hF b U)))).trans (D j u hj)⟩
    ·rcases R b U with Z|Z
     ·exact(hb b e).1 Z
     ·have:=(hb b e).2;omega
 ok:=ok
theorem nE{m:DiskM}(h:(aZ m).Nodup):m.g≠m.bl/\m.g≠m.bf/\m.g≠m.bc/\m.bl≠m.bf/\m.bl≠m.bc/\m.bf≠m.bc/\(∀ b,m.sv.ownBlock=some b->b≠m.g/\b≠m.bl/\b≠m.bf/\b≠m.bc)/\(∀ b,m.ov.ownBlock=some b->b≠m.g/\b≠m.bl/\b≠m.bf/\b≠m.bc)/\(∀ b,m.sv.ownBlock=some b->m.ov.ownBlock≠some b):=by
 unfold aZ at h;rw[List.nodup_append] at h;obtain⟨h1,K,J⟩:=h;rw[List.nodup_append] at K;obtain⟨_,_,R⟩:=K;simp only[List.nodup_cons,jl,j8,or_false,not_or] at h1;refine⟨h1.1.1,h1.1.2.1,h1.1.2.2,h1.2.1.1,h1.2.1.2,h1.2.2.1,λb e=>?_,λb e=>?_,λb e O=>?_⟩
 ·have I:b∈m.sv.ownBlock.toList++m.ov.ownBlock.toList:=by simp[e]
  exact⟨λD=>J m.g (by simp) b I D.symm,λD=>J m.bl (by simp) b I D.symm,λD=>J m.bf (by simp) b I D.symm,λD=>J m.bc (by simp) b I D.symm⟩
 ·have I:b∈m.sv.ownBlock.toList++m.ov.ownBlock.toList:=by simp[e]
  exact⟨λD=>J m.g (by simp) b I D.symm,λD=>J m.bl (by simp) b I D.symm,λD=>J m.bf (by simp) b I D.symm,λD=>J m.bc (by simp) b I D.symm⟩
 ·exact R b (by simp[e]) b (by simp[O]) rfl
theorem DK.room(h:DK w m d)(r:Nat)(h1:d.room<=r)(D:r<=100000):DK w m { d with room:=r } where
 blk:=h.blk
 sec:=h.sec
 opn:=h.opn
 last:=h.last.mono h1
 fl:=h.fl.mono h1
 cr:=h.cr.mono h1
 nd:=h.nd
 flv:=h.flv
 crv:=h.crv
 ok:=⟨h.ok.sec,h.ok.opn,h.ok.few,jm h.ok.lo h1,jm h.ok.st h1,D,h.ok.cl⟩
end
theorem rJ(l:List (Int×List Int))(p:Int×List Int):eJ (l++[p])=JA (eJ l) p.1 (.int .i64 (l.length:Nat)):=by
 unfold eJ;rw[List.zipIdx_append,List.foldl_append];simp
theorem tO:eJ []=λ_=>none:=rfl
theorem QD{α:Type}{Q:List α->Prop}(D:Q [])(h1:∀ l p,Q l->Q (l++[p]))(l:List α):Q l:=by
 have:∀ l:List α,Q l.reverse:=λl=>by
  induction l with
  | nil=>exact D
  | cons x l ih=>rw[List.reverse_cons];exact h1 _ _ ih
 have h:=this l.reverse
 rwa [List.reverse_reverse] at h
theorem AT(l:List (Int×List Int)):∀ k:Int,match eJ l k with
  | none=>l.filter (λp=>p.1 == k)=[]
  | some v=>∃(i:Nat) (h:i<l.length),v = .int .i64 i/\(l.filter (λp=>p.1 == k)).getLast? = some l[i]:=by
 refine QD (Q:=λl=>∀ k:Int,match eJ l k with
  | none=>l.filter (λp=>p.1 == k)=[]
  | some v=>∃(i:Nat) (h:i<l.length),v = .int .i64 i/\(l.filter (λp=>p.1 == k)).getLast? = some l[i]) (λk=>rfl) (λl p ih k=>?_) l
 ·show _;rw[rJ];unfold JA;by_cases hk:k=p.1
  ·rw[jP hk];refine⟨l.length,by simp,rfl,?_⟩;rw[List.filter_append];simp[hk]
  ·rw[jQ hk];have:=ih k;have I:(l++[p]).filter (λp=>p.1 == k)=l.filter (λp=>p.1 == k):=by
    rw[List.filter_append];have D:¬p.1=k:=λe=>hk e.symm
    simp[D]
   cases hl:eJ l k with
   | none=>rw[hl] at this;simp only at this ⊢;rw[I];exact this
   | some v=>
    rw[hl] at this;obtain⟨i,hi,rfl,h1⟩:=this;refine⟨i,by simp;omega,rfl,?_⟩;rw[I,h1,List.getElem_append_left hi]
attribute [irreducible] eJ
theorem fI{p:Int×List Int}(h:Sec p.2):(wrC p).length=65:=by simp[wrC,aK,h.1]
theorem aH{s:List Int}(h:Sec s):(u8s s).length=64:=by rw[aK,h.1]
theorem GP{d:DiskD}(h:DOk d)(a:Int)(J:0<=a)(h1:a<d.sec.length):Sec (rdD d a):=by
 unfold rdD;cases hf:(d.opn.filter (λp=>p.1 == a)).getLast? with
 | none=>
  have D:a.toNat<d.sec.length:=by omega
  have I:d.sec.getD a.toNat []=d.sec[a.toNat]:=by simp[jn,List.getElem?_eq_getElem D]
  simp only[Option.map_none,Option.getD_none,I];exact h.sec _ (List.getElem_mem D)
 | some p=>
  simp only[Option.map_some,Option.getD_some];have:=List.mem_of_getLast? hf;exact(h.opn p (List.mem_filter.1 this).1).2.2
end
section
open Go.RowKit
attribute [local irreducible] wpQuiet wpAnyH
def zsec:List Int:=List.replicate 64 0
theorem gP:Sec zsec:=⟨by simp[zsec],λb hb=>by have:=(List.mem_replicate.1 hb).2;omega⟩
def gQ(n:Nat):DiskD:={ sec:=List.replicate n zsec,opn:=[],down:=false,steps:=0,fl:=λ_=>false,cr:=λ_=>none,room:=0 }
theorem AU:u8s zsec=List.replicate 64 (.int .u8 0):=by simp[zsec,u8s]
theorem nF(n:Nat):(List.replicate n zsec).flatMap u8s=List.replicate (n*64) (.int .u8 0):=by
 induction n with
 | zero=>simp
 | succ n ih=>rw[List.replicate_succ,List.flatMap_cons,ih,AU,Nat.add_mul,Nat.one_mul,Nat.add_comm,List.replicate_append_replicate]
attribute [irreducible] zsec
theorem yV(N:Nat):madeCells (Array.replicate 64 (.int .u8 0)) N=(List.replicate N (.int .u8 0)).toArray:=by
 have:(madeCells (Array.replicate 64 (.int .u8 0)) N).toList=List.replicate N (.int .u8 0):=by
  rw[List.eq_replicate_iff];refine⟨by simp[madeCells],λb hb=>?_⟩;simp only[madeCells,Array.toList_map,List.mem_map] at hb;obtain⟨i,_,rfl⟩:=hb;have D:i % 64<64:=Nat.mod_lt _ (by decide);simp[D]
 rw[<- this,Array.toArray_toList]
theorem xG(n:Nat)(R:n<=4096)(w:World):(Instr.makeSlice 84 (.int .i64 n) (.int .i64 n)).run prog w = .ok (.slice (some ⟨w.heap.size,0,none⟩) n n) (w.alloc (.cells ((List.replicate n zsec).flatMap u8s).toArray 195)):=by
 have K:(prog.info? 195).map (λi=>(i.zero,i.size,i.bytes))=some (some (.agg (Array.replicate 64 (.int .u8 0))),64,64):=by kernel_rfl
 obtain⟨i,h1,I,D,J⟩:=info_parts K;have:=run_makeSlice (P:=prog) (w:=w) 84 195 i _ underlying84 h1 I .i64 .i64 n n (by omega) (Int.le_refl _) (by rw[D];simp;omega) (by rw[J];omega) (by omega);rw[this,D,Int.toNat_natCast,nF];have O:(Value.agg (Array.replicate 64 (.int .u8 0))).cells=Array.replicate 64 (.int .u8 0):=rfl;rw[O,yV]
theorem AV(a:Int)(w:World)(m:DiskM)(d:DiskD)(h:DK w m d):
  Calls prog 154 #[.pointer (some ⟨m.g,0,none⟩),.int .i64 a] w λe w'=>e = .returned (.bool (decide (0<=a) && decide (a<d.sec.length)))/\w'=w:=by
 obtain⟨A,cap,K,_⟩:=Sn.own h.sec;have J:=h.blk.cell 0;simp only[eX,jf,jg,K] at J;rcases jb (decide (0<=a)) with D|D <;> rcases jb (decide (a<d.sec.length)) with I|I
 all_goals
  go_enter func154,ntmps154
  go_wp2_with fail
  go_ret;refine⟨?_,rfl⟩
  first|rfl|(rw[D];rfl)|(rw[D,I];rfl)
def tP(w:World)(n:Nat):DiskM:={ g:=w.heap.size+4,sv:=.slice (some ⟨w.heap.size,0,none⟩) n n,ov:=.slice none 0 0,bl:=w.heap.size+1,bf:=w.heap.size+2,bc:=w.heap.size+3,fv:=λ_=>none,cv:=λ_=>none }
theorem tQ(n:Nat)(w:World)(_:0<=n)(a1:n<=4096):
  Calls prog 14 #[.int .i64 n] w λe w'=>∃ m,e = .returned (.pointer (some ⟨m.g,0,none⟩))/\DK w' m (gQ n)/\Below w.heap.size w w'/\∀ k∈aZ m,w.heap.size<=k:=by
 have a6:∀(t:TypeId) (w:World),(Instr.makeMap t none).run prog w = .ok (.map (some w.heap.size)) (w.alloc (.map #[] 0)):=λt w=>run_makeMap t w
 have a7:∀ w,(Instr.makeSlice 84 (.int .i64 n) (.int .i64 n)).run prog w = .ok (.slice (some ⟨w.heap.size,0,none⟩) n n) (w.alloc (.cells ((List.replicate n zsec).flatMap u8s).toArray 195)):=xG n a1;have a2:max (n:Int) 0=n:=by omega
 have a3:min (n:Int) 4096=n:=by omega
 have a4:(0:Int)<=n:=by omega
 have a5:(n:Int)<=4096:=by omega
 go_enter func14,ntmps14
 go_wp2_with fail
 go_ret;obtain⟨O,D⟩:=je (w.alloc (.cells ((List.replicate n zsec).flatMap u8s).toArray 195));have s1:O.heap.size=w.heap.size+1:=by rw[D];simp
 have b1:O.heap[w.heap.size]? = some (.cells ((List.replicate n zsec).flatMap u8s).toArray 195 (0,0)):=by rw[D];exact heap_alloc_new w _
 have B1:Below w.heap.size w O:=by rw[D];exact(ji _ w).alloc (ja _) _
 rw[<- D];clear D;obtain⟨R,I⟩:=je (O.alloc (.map #[] 0));have u2:UM R (w.heap.size+1) 0 (λ_=>none):=by rw[I];exact UM.madeAt O _ s1
 have s2:R.heap.size=w.heap.size+2:=by rw[I];simp[s1]
 have B2:Below O.heap.size O R:=by rw[I];exact(ji _ _).alloc (ja _) _
 rw[<- I];clear I;obtain⟨U,J⟩:=je (R.alloc (.map #[] 0));have u3:UM U (w.heap.size+2) 0 (λ_=>none):=by rw[J];exact UM.madeAt R _ s2
 have s3:U.heap.size=w.heap.size+3:=by rw[J];simp[s2]
 have B3:Below R.heap.size R U:=by rw[J];exact(ji _ _).alloc (ja _) _
 rw[<- J];clear J;obtain⟨V,K⟩:=je (U.alloc (.map #[] 0));have u4:UM V (w.heap.size+3) 0 (λ_=>none):=by rw[K];exact UM.madeAt U _ s3
 have s4:V.heap.size=w.heap.size+4:=by rw[K];simp[s3]
 have B4:Below U.heap.size U V:=by rw[K];exact(ji _ _).alloc (ja _) _
 rw[<- K];clear K;have B5:∀ o,Below V.heap.size V (V.alloc o):=λo=>(ji _ _).alloc (ja _) _
 have a0:=aB B3 B4;have Z:=aB B2 a0;refine⟨tP w n,rfl,⟨?_,⟨?_,.inr ⟨w.heap.size,n,((List.replicate n zsec).flatMap u8s).toArray,by simp[tP,gQ],j0 _,?_,?_⟩⟩,⟨rfl,.inl ⟨rfl,rfl⟩⟩,?_,?_,?_,?_,λ_ _=>rfl,λ_ _=>rfl,?_⟩,aB B1 (aB Z (B5 _)),?_⟩
 ·exact Blk.newAt V 90 (eX (tP w n) (gQ n)) _ s4
 ·show((List.replicate n zsec).flatMap u8s).length=(List.replicate n zsec).length*64;rw[nF];simp
 ·exact((aB Z (B5 _)).block w.heap.size (by omega)).trans b1
 ·refine⟨by simp[gQ],by unfold maxLen;omega,?_,?_⟩
  ·rw[nF];simp
  ·show List.take ((List.replicate n zsec).length*64) _=(List.replicate n zsec).flatMap u8s;rw[nF];simp
 ·show UM _ _ _ (eJ []);rw[tO];exact(u2.keep a0).keep (B5 _)
 ·exact(u3.keep B4).keep (B5 _)
 ·exact u4.keep (B5 _)
 ·simp[aZ,tP,Value.ownBlock]
 ·refine⟨λs hs=>?_,λp hp=>?_,?_,ja _,ja _,j0 _,λk cs h=>by cases h⟩
  ·obtain rfl:=(List.mem_replicate.1 hs).2;exact gP
  ·cases hp
  ·simp[gQ];omega
 ·intro k hk;simp[aZ,tP,Value.ownBlock] at hk;omega
section
variable {P : Program}
theorem bld{ops:Array Oper}{rest:List Oper}{o:Oper}{a:Act}{w:World}{Q:Exit->Act->World->Prop}(ty:TypeId)(parts:Array (Nat×Operand))(J:o.op = .build ty parts)(O:Region.wanted o (yielded ops a.tmps)=true)
  {vs:List (Nat×Value)} {cells:Array Value} (D:(parts.toList.map fun(i,x)=>(i,a.eval x))=vs) (hb:P.built ty vs=some cells)
  (h:wpList P ops Q rest (a.put o.dst (.agg cells)) w):wpList P ops Q (o :: rest) a w:=
 wpList_step λK I=>by
  rw[jP O];rw[<- Array.toList_map] at D;unfold Oper.wp;have hrun:(execOp a.eval o).run P w = .ok (.value (.agg cells)) w:=by
   unfold execOp;simp only[J,Sem.run_bind,run_build w ty _ cells (by rw[D];exact hb),Result.andThen_ok];rfl
  rw[hrun,Oper.upon_value];exact I _ _ h
end
theorem sV:prog.built 195 []=some z64:=by unfold z64;kernel_rfl
def iR(d:DiskD)(a:Int):Bool:=decide (0<=a) && decide (a<d.sec.length)
def jJ(c:Int):Value:=.iface 58 (.int .i64 c)
def tS(c a:Int):Value:=.iface 305 (.agg #[.int .i64 c,.int .i64 a])
def rdE(d:DiskD)(a:Int):Value:=if d.down then jJ 12 else if iR d a then .nilIface else tS 15 a
def rdS(d:DiskD)(a:Int):List Int:=if d.down then zsec else if iR d a then rdD d a else zsec
theorem rK(z:Int)(w:World):Calls prog 155 #[.int .i64 15,.int .i64 z] w λe w'=>e = .returned (tS 15 z)/\w'=w:=by
 go_enter func155,ntmps155
 go_wp2_with fail
 go_ret;exact⟨rfl,rfl⟩
theorem oZ:z64=(u8s zsec).toArray:=by rw[AU];unfold z64 u8s;simp
theorem eK{α:Type}(f:α->List Value)(s:Nat):∀(l:List α),(∀ x∈l,(f x).length=s)->∀ k (hk:k<l.length),((l.flatMap f).drop (k*s)).take s=f l[k]
 | [],_,k,hk=>by simp at hk
 | x :: l,h,0,_=>by
  have D:=h x (by simp);simp only[List.flatMap_cons,Nat.zero_mul,List.drop_zero,List.getElem_cons_zero];rw[List.take_append_of_le_length (by omega),List.take_of_length_le (by omega)]
 | x :: l,h,k+1,hk=>by
  have D:=h x (by simp);simp only[List.flatMap_cons,List.getElem_cons_succ];rw[Nat.add_mul,Nat.one_mul,List.drop_append,List.drop_eq_nil_of_le (by omega),List.nil_append,D,Nat.add_sub_cancel];exact eK f s l (λy hy=>h y (by simp[hy])) k (by simpa using hk)
theorem LQ{w:World}{A:Option Addr}{cap:Nat}{l:List (List Int)}(h:Sn w 64 (.slice A l.length cap) l.length (l.flatMap u8s))(D:∀ s∈l,Sec s)(k:Nat)(I:k<l.length):
  ∃ b off,A=some ⟨b,off,none⟩/\w.rangeAt b (off+k*64) (u8s l[k]):=by
 obtain⟨b,off,rfl,J⟩:=h.range k I;rw[eK u8s 64 l (λs hs=>aH (D s hs)) k I] at J;exact⟨b,off,rfl,J⟩
theorem LR{w:World}{A:Option Addr}{cap:Nat}{l:List (Int×List Int)}(h:Sn w 65 (.slice A l.length cap) l.length (l.flatMap wrC))(D:∀ p∈l,Sec p.2)(k:Nat)(I:k<l.length):
  ∃ b off,A=some ⟨b,off,none⟩/\w.rangeAt b (off+k*65) (wrC l[k]):=by
 obtain⟨b,off,rfl,J⟩:=h.range k I;rw[eK wrC 65 l (λs hs=>fI (D s hs)) k I] at J;exact⟨b,off,rfl,J⟩
theorem LU{d:DiskD}{a:Int}(h:d.opn.filter (λp=>p.1 == a)=[]):rdD d a=d.sec.getD a.toNat []:=by
 unfold rdD;rw[h];rfl
theorem LV{d:DiskD}{a:Int}{p:Int×List Int}(h:(d.opn.filter (λp=>p.1 == a)).getLast? = some p):rdD d a=p.2:=by
 unfold rdD;rw[h];rfl
theorem WO:∀ w,(zeroValue 3).run prog w = .ok (.int .i64 0) w:=λw=>by kernel_rfl
theorem xH(a:Int)(w:World)(m:DiskM)(d:DiskD)(h:DK w m d)(ha:aI a):
  Calls prog 105 #[.pointer (some ⟨m.g,0,none⟩),.int .i64 a] w λe w'=>e = .returned (.tuple #[.agg (u8s (rdS d a)).toArray,rdE d a])/\Below w.heap.size w w':=by
 have d0:=h.blk.lt;have H:=jz h;have a8:=h.blk.cell 3;simp only[eX,jf,jh,jg] at a8;have HZ:=jz oZ;clear h;have b9:Hid (z64.all (·.oneCell')=true):=jz (by rw[oZ];exact dL _);have b2:z64.size=64:=cT;have HU:Hid (∀ s,Sec s->(prog.info? 195).map (·.size)=some (u8s s).length):=jz (λs hs=>by rw[aH hs];kernel_rfl);have c2:Hid (Sec zsec):=jz gP;have a4:Hid (Blk (w.alloc (.cells z64 195)) w.heap.size 195 z64):=jz (Blk.new w _ _);have I:Hid (Below w.heap.size w (w.alloc (.cells z64 195))):=jz ((ji _ _).alloc (ja _) _);cases hd:d.down with
 | true=>
  rw[hd] at a8;have HF:Hid (rdS d a=zsec/\rdE d a=jJ 12):=jz (by unfold rdS rdE;rw[hd];exact⟨rfl,rfl⟩);clear hd;go_enter func105,ntmps105
  go_wp2_with (first
   | (refine al 195 z64 rfl rfl dH ?_)
   | (refine bld 195 #[] rfl rfl rfl sV ?_)
   | (refine aN 195 (.tmp 4) (.tmp 16) rfl rfl rfl rfl a4 (by rw[b2];kernel_rfl) rfl b9 ?_;intro w3 J K _ _;have V:=jz J;have Z:=jz K;clear J K))
  have hr:w3.rangeAt w.heap.size 0 (u8s zsec):=by have h:=V.range;rw[HZ.out,jt] at h;exact h
  exact bodyPost_ret (aD rfl _ rfl hr underlying195 rfl (HU _ c2)) rfl ⟨by rw[HF.out.1,HF.out.2];rfl,I.trans Z⟩
 | false=>
  rw[hd] at a8;have U:=jz (λR (hb:Below w.heap.size w R)=>AV a R m d (H.out.keep hb));cases hh:iR d a with
  | false=>
   have HF:Hid (rdS d a=zsec/\rdE d a=tS 15 a):=jz (by unfold rdS rdE;rw[hd,hh];exact⟨rfl,rfl⟩);have HH:Hid ((decide (0<=a) && decide (a<d.sec.length))=false):=jz hh;rw[HH.out] at U;have c4:=jz (λR=>rK a R);clear hd hh;go_enter func105,ntmps105
   go_wp2_with (first
    | (go_at_call 154;refine(U _ I).mono ?_;rintro e R ⟨rfl,O⟩;rw[O];clear O)
    | (go_at_call 155;refine(c4 _).mono ?_;rintro e R ⟨rfl,O⟩;rw[O];clear O)
    | (refine al 195 z64 rfl rfl dH ?_)
    | (refine bld 195 #[] rfl rfl rfl sV ?_)
    | (refine aN 195 (.tmp 4) (.tmp 22) rfl rfl rfl rfl a4 (by rw[b2];kernel_rfl) rfl b9 ?_;intro w3 J K _ _;have V:=jz J;have Z:=jz K;clear J K))
   have hr:w3.rangeAt w.heap.size 0 (u8s zsec):=by have h:=V.range;rw[HZ.out,jt] at h;exact h
   exact bodyPost_ret (aD rfl _ rfl hr underlying195 rfl (HU _ c2)) rfl ⟨by rw[HF.out.1,HF.out.2];rfl,I.trans Z⟩
  | true=>
   have a9:0<=a/\a<d.sec.length:=by unfold iR at hh;simpa using hh
   have HF:Hid (rdS d a=rdD d a/\rdE d a = .nilIface):=jz (by unfold rdS rdE;rw[hd,hh];exact⟨rfl,rfl⟩);have HH:Hid ((decide (0<=a) && decide (a<d.sec.length))=true):=jz hh;rw[HH.out] at U;have b3:Hid (Sec (rdD d a)):=jz (GP H.out.ok a a9.1 a9.2);have a5:=jz (λR (hb:Below w.heap.size w R)=>UM.look underlying85 (H.out.last.keep hb) (WO R) ha);have a2:=jz (AT d.opn a);have c7:=H.out.blk.cell 2;simp only[eX,jf,jh,jg] at c7;have b7:Hid (∀ s,Sec s->(z64.size=(u8s s).toArray.size)/\((u8s s).toArray.all (·.oneCell')=true)/\(prog.info? 195).map (·.size)=some (u8s s).toArray.size):=jz (λs hs=>⟨by rw[b2];simp[aH hs],dL s,by simp only[js,aH hs];kernel_rfl⟩);clear hd hh;cases hl:eJ d.opn a with
   | none=>
    rw[hl] at a5 a2;have a6:Hid (rdD d a=d.sec.getD a.toNat []):=jz (LU a2);obtain⟨A0,c3,b1,_⟩:=Sn.own H.out.sec;obtain⟨k,rfl⟩:=Int.eq_ofNat_of_zero_le a9.1;have hk:k<d.sec.length:=by omega
    have a0:=Sn.own H.out.sec;rw[b1] at a0;obtain⟨b,off,rfl,hr⟩:=LQ a0 H.out.ok.sec k hk;have c5:=H.out.blk.cell 0;simp only[eX,jf,jh,jg,b1] at c5;have a1:Hid (∀ R,Below w.heap.size w R->R.rangeAt b (off+k*64) (u8s (rdD d k))):=jz (λR hb=>by
     rw[a6.out,Int.toNat_natCast,show d.sec.getD k []=d.sec[k] by simp[jn,hk]]
     exact λj u hj=>j9 hb (hr j u hj))
    have c9:=a5.out _ I.out;clear hr a0 hl b1;obtain⟨S,hS⟩:=je (u8s (rdD d k));have D:=jz (b7 _ b3);rw[<- hS] at a1 D;have a7:=jz hS;clear hS;go_enter func105,ntmps105
    go_wp2_with (first
     | (go_at_call 154;refine(U _ I).mono ?_;rintro e R ⟨rfl,O⟩;rw[O];clear O)
     | (refine al 195 z64 rfl rfl dH ?_)
     | (refine ld 195 _ rfl rfl rfl (a1 _ I) underlying195 rfl (by simpa using D.out.2.2) ?_)
     | (refine aN 195 (.tmp 4) (.tmp 49) rfl rfl rfl rfl a4 D.out.2.2 D.out.1 D.out.2.1 ?_;intro w3 J K _ _;have V:=jz J;have Z:=jz K;clear J K))
    have hr:w3.rangeAt w.heap.size 0 S:=by have h:=V.range;rw[jt] at h;exact h
    exact bodyPost_ret (aD rfl _ rfl hr underlying195 rfl (by simpa using D.out.2.2)) rfl ⟨by rw[HF.out.1,HF.out.2,<- a7.out];rfl,I.trans Z⟩
   | some v=>
    rw[hl] at a5 a2;obtain⟨i,hi,rfl,a3⟩:=a2.out;have a6:Hid (rdD d a=d.opn[i].2):=jz (LV a3);obtain⟨A0,c3,b0,_⟩:=Sn.own H.out.opn;have a0:=Sn.own H.out.opn;rw[b0] at a0;obtain⟨b,off,rfl,hr⟩:=LR a0 (λp hp=>(H.out.ok.opn p hp).2.2) i hi;have c6:=H.out.blk.cell 1;simp only[eX,jf,jh,jg,b0] at c6;have a1:Hid (∀ R,Below w.heap.size w R->R.rangeAt b (off+i*65+1) (u8s (rdD d a))):=jz (λR hb=>by
     rw[a6.out]
     exact λj u hj=>j9 hb (by have:=hr (j+1) u hj;rw[show off+i*65+1+j=off+i*65+(j+1) by omega];exact this))
    have c9:=a5.out _ I.out;have d1:(0:Int)<=i:=by omega
    have d2:(i:Int)<d.opn.length:=by omega
    clear hr a0 hl b0 a3 a2;obtain⟨S,hS⟩:=je (u8s (rdD d a));have D:=jz (b7 _ b3);rw[<- hS] at a1 D;have a7:=jz hS;clear hS;go_enter func105,ntmps105
    go_wp2_with (first
     | (go_at_call 154;refine(U _ I).mono ?_;rintro e R ⟨rfl,O⟩;rw[O];clear O)
     | (refine al 195 z64 rfl rfl dH ?_)
     | (refine ld 195 _ rfl rfl rfl (a1 _ I) underlying195 rfl (by simpa using D.out.2.2) ?_)
     | (refine aN 195 (.tmp 4) (.tmp 42) rfl rfl rfl rfl a4 D.out.2.2 D.out.1 D.out.2.1 ?_;intro w3 J K _ _;have V:=jz J;have Z:=jz K;clear J K))
    have hr:w3.rangeAt w.heap.size 0 S:=by have h:=V.range;rw[jt] at h;exact h
    exact bodyPost_ret (aD rfl _ rfl hr underlying195 rfl (by simpa using D.out.2.2)) rfl ⟨by rw[HF.out.1,HF.out.2,<- a7.out];rfl,I.trans Z⟩
end
section
open Go.RowKit
theorem tT(D mid I new:List Value)(O:mid.length=new.length):
  ((new.zipIdx D.length).foldl (fun(cs:Array Value) (x:Value×Nat)=>cs.setIfInBounds x.2 x.1) (D++mid++I).toArray)=(D++new++I).toArray:=by
 apply Array.ext_getElem?;intro i;rw[mJ];simp only[jf,js,jj];split
 ·rename_i h;rw[List.append_assoc,jx (by omega),jy (by omega)]
 ·rename_i h;rcases jo i D.length with h1|h1
  ·rw[List.append_assoc,jy h1,List.append_assoc,jy h1]
  ·rw[List.append_assoc,List.append_assoc,jx h1,jx h1];rcases jo (i-D.length) new.length with J|J
   ·have:¬i<D.length+mid.length+I.length:=λK=>h ⟨h1,by omega,K⟩
    omega
   ·rw[jx (by omega),jx (by omega),O]
section
variable {P : Program} {ops : Array Oper} {Q : Exit -> Act -> World -> Prop} {S : World -> Prop} {a : Act} {w : World} {listed : Array Bool} {fuel : Nat}
theorem QE(i:Nat)(t:TypeId)(parts:Array (Nat×Operand))(dst:Option Tmp){vs:List (Nat×Value)}{cells:Array Value}(hd:(ops[i]?).map (λo=>(o.op,o.dst))=some (.build t parts,dst))(R:(ops[i]?).map (λo=>Region.wanted o (yielded ops a.tmps))=some true)
  (hs:Region.noSelect ops=true) (J:Region.free .any ops listed i=true) (O:(Region.ready .any ops listed).contains i=true)
  (I:∀ c a w,Q (.panic c) (a.put dst (.agg cells)) w->Q (.panic c) a w) (D:(parts.toList.map fun(i,x)=>(i,a.eval x))=vs) (hb:P.built t vs=some cells) (hS:S w)
  (h:wpAnyH P .any ops Q S fuel (listed.setIfInBounds i true) (a.put dst (.agg cells)) w):wpAnyH P .any ops Q S (fuel+1) listed a w:=
 GK i _ dst _ hd R hs J O I (λo K w _=>by
  rw[<- Array.toList_map] at D
  unfold execOp
  simp only[K,Sem.run_bind,run_build w t _ cells (by rw[D];exact hb),Result.andThen_ok]
  rfl) hS h
theorem JB(s:Nat)(Z:Array Value)(cs:List Value)(I:Z.size=s)(J:cs.length=s):Instr.fill (λi=>some (i*s,s)) Z [(0,.agg cs.toArray)]=some cs.toArray:=by
 have h1:(Value.agg cs.toArray).cells=cs.toArray:=rfl;have D:=tT [] Z.toList [] cs (by simp[I,J]);simp only[List.nil_append,List.append_nil,List.length_nil,Array.toArray_toList] at D;simp[Instr.fill,h1,J];exact⟨Nat.le_of_eq I.symm,D⟩
theorem xI{t e s bytes:Nat}(T:SlT P t e s bytes)(cs:List Value)(J:cs.length=s)(hs:s<=1000)(w:World):(Instr.buildSlice t 1 #[(0,.agg cs.toArray)]).run P w = .ok (.slice (some ⟨w.heap.size,0,none⟩) 1 1) (w.alloc (.cells cs.toArray e)):=by
 obtain⟨i,z,hi,K,D,I,O⟩:=T.hi;have:=T.hs;refine run_buildSlice w t e 1 _ cs.toArray i z T.ht hi K (by rw[D];omega) (by rw[D];omega) ?_;rw[D];exact JB s _ cs (by simp) J
theorem LW{I:List Nat}(i:Nat){t e s bytes:Nat}(T:SlT P t e s bytes)(x:Operand)(dst:Option Tmp)(hd:(ops[i]?).map (λo=>(o.op,o.dst))=some (.buildSlice t 1 #[(0,x)],dst))(O:(ops[i]?).map (λo=>Region.wanted o (yielded ops a.tmps))=some true)
  {cs:List Value} (R:a.eval x = .agg cs.toArray) (J:cs.length=s) (D:s<=1000) (hS:S (w.alloc (.cells cs.toArray e)))
  (h:wpAnyH P .any ops Q S fuel (listed.setIfInBounds i true) (a.put dst (.slice (some ⟨w.heap.size,0,none⟩) 1 1)) (w.alloc (.cells cs.toArray e))) (hs:AllReadyH P .any ops Q S fuel listed a w I):AllReadyH P .any ops Q S fuel listed a w (i :: I):=
 AO i _ dst _ _ hd O (λo K=>by
  have hrun:=xI T cs J D w
  unfold execOp
  simp only[K,Sem.run_bind,List.map_toArray,List.map_cons,List.map_nil,R,hrun,Result.andThen_ok]
  rfl) hS h hs
theorem TH{rs:List Nat}(i:Nat){t e s bytes:Nat}(T:SlT P t e s bytes)(p q:Operand)(dst:Option Tmp)(hd:(ops[i]?).map (λo=>(o.op,o.dst))=some (.call { callee:=.builtin .append,args:=#[p,q],argTypes:=#[t,t] },dst))(hw:(ops[i]?).map (λo=>Region.wanted o (yielded ops a.tmps))=some true)
  {base n m:Nat} {v x:Value} {xs D:List Value} (hv:a.eval p=v) (U:w.ownsRow base e s v n xs) (a0:a.eval q=x) (hx:Sn w s x m D)
  (h1:∀ u∈D,u.oneCell'=true) (V:n+m<=maxLen) (I:(n+m)*bytes<=140737488355328) (J:base<=w.heap.size)
  (h:∀ v' w',w'.ownsRow base e s v' (n+m) (xs++D)->w.grownBy w' v.ownBlock->(v'.ownBlock=v.ownBlock\/v'.ownBlock=some w.heap.size)->S w'/\(S w'->wpAnyH P .any ops Q S fuel (listed.setIfInBounds i true) (a.put dst v') w')) (hs:AllReadyH P .any ops Q S fuel listed a w rs):AllReadyH P .any ops Q S fuel listed a w (i :: rs):=by
 cases ho:ops[i]? with
 | none=>rw[ho] at hd;cases hd
 | some o=>
  have O:=hd;rw[ho] at O;simp only[Option.map_some,Option.some.injEq,Prod.mk.injEq] at O;obtain⟨v',w',hrun,h2,h3,h4⟩:=gL (ty:=o.type) T U hx h1 V I J;obtain⟨h5,h6⟩:=h v' w' h2 h3 h4;obtain⟨Z,R⟩:=O;rw[ho] at hw;simp only[Option.map_some,Option.some.injEq] at hw;refine AllReadyH.cons ho (λK hK=>?_) hs;rw[jP hw];unfold Oper.wp execOp;simp only[Z,resolve,invoke,builtin,Sem.run_bind,Sem.run_pure,Result.andThen_ok,List.map_toArray,List.map_cons,List.map_nil,hv,a0,hrun];rw[Oper.upon_value,R];exact hK _ _ h5 h6
theorem yW{O:List Nat}(i:Nat)(J:Op)(dst:Option Tmp)(I:World)(hd:(ops[i]?).map (λo=>(o.op,o.dst))=some (J,dst))(D:(ops[i]?).map (λo=>Region.wanted o (yielded ops a.tmps))=some true)
  (hrun:∀ o:Oper,o.op=J->(execOp a.eval o).run P w = .ok .skip I) (hS:S I)
  (h:wpAnyH P .any ops Q S fuel (listed.setIfInBounds i true) (a.put dst undef) I) (hs:AllReadyH P .any ops Q S fuel listed a w O):AllReadyH P .any ops Q S fuel listed a w (i :: O):=by
 cases ho:ops[i]? with
 | none=>rw[ho] at hd;cases hd
 | some o=>
  rw[ho] at hd D;simp only[Option.map_some,Option.some.injEq,Prod.mk.injEq] at hd D;obtain⟨R,U⟩:=hd;subst U;refine AllReadyH.cons ho (λK V=>?_) hs;rw[jP D];unfold Oper.wp;rw[hrun o R];exact V _ _ hS (λ_=>h)
theorem VW{U:List Nat}(i:Nat){tM V:TypeId}(p q:Operand)(dst:Option Tmp)(R:World){vm vk:Value}(hd:(ops[i]?).map (λo=>(o.op,o.dst))=some (.call { callee:=.builtin .delete,args:=#[p,q],argTypes:=#[tM,V] },dst))(O:(ops[i]?).map (λo=>Region.wanted o (yielded ops a.tmps))=some true)
  (hv:a.eval p=vm) (hq:a.eval q=vk) (hrun:∀ ty,(Builtin.delete_ #[tM,V] ty #[vm,vk]).run P w = .ok (.tuple #[]) R) (hS:S R)
  (h:wpAnyH P .any ops Q S fuel (listed.setIfInBounds i true) (a.put dst (.tuple #[])) R) (hs:AllReadyH P .any ops Q S fuel listed a w U):AllReadyH P .any ops Q S fuel listed a w (i :: U):=by
 cases ho:ops[i]? with
 | none=>rw[ho] at hd;cases hd
 | some o=>
  have D:=hd;rw[ho] at D;simp only[Option.map_some,Option.some.injEq,Prod.mk.injEq] at D;obtain⟨J,I⟩:=D;rw[ho] at O;simp only[Option.map_some,Option.some.injEq] at O;refine AllReadyH.cons ho (λK Z=>?_) hs;rw[jP O];unfold Oper.wp execOp;simp only[J,resolve,invoke,builtin,Sem.run_bind,Sem.run_pure,Result.andThen_ok,List.map_toArray,List.map_cons,List.map_nil,hv,hq,hrun o.type];rw[Oper.upon_value,I];exact Z _ _ hS (λ_=>h)
theorem WP{I:List Nat}(i:Nat){tM:TypeId}(m p q:Operand)(dst:Option Tmp)(D:World){vm vk J:Value}(hd:(ops[i]?).map (λo=>(o.op,o.dst))=some (.mapUpdate tM m p q,dst))(V:(ops[i]?).map (λo=>Region.wanted o (yielded ops a.tmps))=some true)
  (K:a.eval m=vm) (U:a.eval p=vk) (R:a.eval q=J) (hrun:(Instr.mapUpdate tM vm vk J).run P w = .ok () D) (hS:S D)
  (h:wpAnyH P .any ops Q S fuel (listed.setIfInBounds i true) (a.put dst undef) D) (hs:AllReadyH P .any ops Q S fuel listed a w I):AllReadyH P .any ops Q S fuel listed a w (i :: I):=
 yW i _ dst D hd V (λo O=>by
  unfold execOp
  simp only[O,Sem.run_bind,K,U,R,hrun,Result.andThen_ok]
  rfl) hS h hs
end
end
end Go.Proofs.YtjjlaipkkdncfaaGreatDoor
