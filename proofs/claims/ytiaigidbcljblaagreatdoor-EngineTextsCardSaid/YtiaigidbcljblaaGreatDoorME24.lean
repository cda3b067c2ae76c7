import Derived.Test.YtiaigidbcljblaaGreatDoorME2
import Derived.Test.YtiaigidbcljblaaGreatDoorME1
import Derived.Deep.QuietTactic
import Derived.BigQuiet
import Derived.Deep.DeepCutAuto
import Derived.Laws.BitsAllLaws
import Derived.Test.YtiaigidbcljblaaGreatDoorME23
import Derived.Lib.ItoaNum
import Derived.Lib.ItoaMem
import Derived.IntWalk
set_option linter.unusedVariables false
set_option linter.unusedSimpArgs false
set_option maxRecDepth 100000
set_option maxHeartbeats 40000000
namespace Go.Proofs.YtiaigidbcljblaaGreatDoor
section
open Go.RowKit
attribute [local irreducible] wpQuiet wpAnyH
def arr{α:Type}(n:Nat)(f:Nat→α):List α:=(List.range n).map f
theorem arr_length{α:Type}(n:Nat)(f:Nat→α):(arr n f).length=n:=by simp[arr]
theorem arr_get{α:Type}{n i:Nat}(f:Nat→α)(h:i<n):(arr n f)[i]? = some (f i):=by simp[arr,h]
def updC{α:Type}(f:Nat→α)(i:Nat)(v:α):Nat→α:=fun k=>if k=i then v else f k
theorem upd_same{α:Type}(f:Nat→α)(i:Nat)(v:α):updC f i v i=v:=if_pos rfl
theorem upd_ne{α:Type}(f:Nat→α){i k:Nat}(v:α)(h:k≠i):updC f i v k=f k:=if_neg h
theorem arr_ext{α:Type}{n:Nat}{f g:Nat→α}(h:∀ k,k<n→f k=g k):arr n f=arr n g:=by
 unfold arr
 exact List.map_congr_left (fun k hk=>h k (List.mem_range.1 hk))
theorem arr_set{α:Type}(n i:Nat)(f:Nat→α)(v:α):(arr n f).set i v=arr n (updC f i v):=by
 apply List.ext_getElem?
 intro k
 rw[List.getElem?_set]
 by_cases hk:k<n
 ·rw[arr_get _ hk,arr_length]
  by_cases e:i=k
  ·subst e
   rw[if_pos rfl,if_pos hk,arr_get _ hk,upd_same]
  ·rw[if_neg e,arr_get _ hk,upd_ne _ _ (fun h=>e h.symm)]
 ·have h1:(arr n f)[k]? = none:=List.getElem?_eq_none (by rw[arr_length];omega)
  have h2:(arr n (updC f i v))[k]? = none:=List.getElem?_eq_none (by rw[arr_length];omega)
  rw[h1,h2,arr_length]
  split
  ·rw[if_neg (by omega)]
  ·rfl
def c8(f:Nat→Nat):Nat→Value:=fun k=>.int .u8 (f k:Nat)
def AB(W:World)(g:Nat)(t:TypeId)(n:Nat)(F:Nat→Value):Prop:=Blk W g t (arr n F).toArray
section
variable {W W' : World} {g n i : Nat} {t : TypeId} {F G : Nat → Value}
theorem AB.cell(h:AB W g t n F)(hi:i<n):W.cell? ⟨g,i,none⟩=some (F i):=by
 have:=Blk.cell h i
 rw[this,List.getElem?_toArray]
 exact arr_get F hi
theorem AB.frozen(h:AB W g t n F)(i:Nat):W.frozen? ⟨g,i,none⟩=false:=Blk.frozen h i
theorem AB.set(h:AB W g t n F)(i:Nat)(v:Value):AB (W.setCell ⟨g,i,none⟩ v) g t n (updC F i v):=by
 have:=Blk.set_ h i v
 rw[List.setIfInBounds_toArray,arr_set] at this
 exact this
theorem AB.keep(h:AB W g t n F)(hb:Below W.heap.size W W'):AB W' g t n F:=Blk.keep h hb
theorem AB.far(h:AB W g t n F){p:Addr}(hp:g≠p.block)(u:Value):AB (W.setCell p u) g t n F:=Blk.far h hp u
theorem AB.ext(h:AB W g t n F)(e:∀ k,k<n→F k=G k):AB W g t n G:=by
 unfold AB at h ⊢
 rw[← arr_ext e]
 exact h
theorem AB.lt(h:AB W g t n F):g<W.heap.size:=Blk.lt h
theorem AB.range(h:AB W g t n F):W.rangeAt g 0 (arr n F):=by
 have:=Blk.range h
 rwa [List.toList_toArray] at this
theorem AB.new(w:World)(t:TypeId)(n:Nat)(F:Nat→Value):AB (w.alloc (.cells (arr n F).toArray t)) w.heap.size t n F:=Blk.new w t _
end
theorem p0(n:Nat):Array.replicate n false=(List.replicate n false).toArray:=by rw[List.toArray_replicate]
theorem pe(l:List Value)(df:List Deferred)(d:Tmp)(v:Value):(Act.mk l.toArray df).put (some d) v=⟨(l.set d v).toArray,df⟩:=by
 unfold Act.put
 simp only[List.setIfInBounds_toArray]
section
variable {P : Program}
theorem bldC{ops:Array Oper}{rest:List Oper}{o:Oper}{a:Act}{w:World}{Q:Exit→Act→World→Prop}(ty:TypeId)(parts:Array (Nat×Operand))(ho:o.op = .build ty parts)(hw:Region.wanted o (yielded ops a.tmps)=true)
  {vs:List (Nat×Value)} {cells:Array Value} (hv:(parts.toList.map fun(i,x)=>(i,a.eval x))=vs) (hb:P.built ty vs=some cells)
  (h:wpList P ops Q rest (a.put o.dst (.agg cells)) w):wpList P ops Q (o :: rest) a w:=
 wpList_step fun K hK=>by
  rw[if_pos hw]
  rw[← Array.toList_map] at hv
  unfold Oper.wp
  have hrun:(execOp a.eval o).run P w = .ok (.value (.agg cells)) w:=by
   unfold execOp
   simp only[ho,Sem.run_bind,run_build w ty _ cells (by rw[hv];exact hb),Result.andThen_ok]
   rfl
  rw[hrun,Oper.upon_value]
  exact hK _ _ h
end
theorem run_index_arr{P:Program}{t e:TypeId}{n:Nat}(cs:Array Value)(i:Nat){v:Value}(h:P.underlying t=some (.array n e))(hi:i<n)(hs:∀ w,(sizeOf e).run P w = .ok 1 w)(he:∀ w,(isAgg e).run P w = .ok false w)(hx:cs[i]? = some v)(w:World):
  (Instr.index t (.agg cs) (.int .i64 (i:Int))).run P w = .ok v w:=by
 simp[Instr.index,run_underlying h,asIntOf,hi,go_sem,hs,part,he,hx]
section
variable {P : Program} {ops : Array Oper} {Q : Exit → Act → World → Prop} {S : World → Prop} {a : Act} {w : World} {listed : Array Bool} {fuel : Nat}
end
end
section
open Go.RowKit
attribute [local irreducible] wpQuiet wpAnyH
structure VS where
 d:DiskD
 now:Int
 co:Option CacheD
def verC(key:Nat→Nat)(skew:Int)(g:Nat)(now:Int)(cv:Value):Array Value:=(arr 16 (c8 key)++[.int .i64 skew,.pointer (some ⟨g,0,none⟩),.int .i64 now,cv]).toArray
structure VV(w0 w:World)(m:DiskM)(gv k N:Nat)(key:Nat→Nat)(skew:Int)(s:VS)(cv:Value)(F:List Nat):Prop where
 st:St w0 w m s.d
 blk:Blk w gv 154 (verC key skew m.g s.now cv)
 co:CO w0 w m s.d (30+k) cv F s.co
 far:Far m F gv
 lo:w0.heap.size≤gv
 now:0≤s.now∧s.now≤1099511627776
 skew:1≤skew∧skew≤1073741824
 len:s.d.sec.length=N
 few:N≤30
 rm:s.d.room≤200*k
structure VT(gv:Nat)(w:World)(m:DiskM)(F:List Nat)(w':World)(m':DiskM)(F':List Nat):Prop where
 ct:CT (gv :: F) w m w' m'
 fs:∀ b∈F',b∈F∨w.heap.size≤b
section
variable {w0 w w' w'' : World} {m m' m'' : DiskM} {gv k k' N : Nat} {key : Nat → Nat} {skew : Int} {s s' : VS} {cv cv' : Value} {F F' F'' : List Nat}
theorem verC_16(key:Nat→Nat)(skew:Int)(g:Nat)(now:Int)(cv:Value)(j:Nat):(verC key skew g now cv)[16+j]? = [Value.int .i64 skew,.pointer (some ⟨g,0,none⟩),.int .i64 now,cv][j]?:=by
 unfold verC
 rw[List.getElem?_toArray,List.getElem?_append_right (by rw[arr_length];omega),arr_length,Nat.add_sub_cancel_left]
theorem verC_set(key:Nat→Nat)(skew:Int)(g:Nat)(now:Int)(cv:Value)(j:Nat)(v:Value):(verC key skew g now cv).setIfInBounds (16+j) v=(arr 16 (c8 key)++[Value.int .i64 skew,.pointer (some ⟨g,0,none⟩),.int .i64 now,cv].set j v).toArray:=by
 unfold verC
 rw[List.setIfInBounds_toArray,List.set_append,if_neg (by rw[arr_length];omega),arr_length,Nat.add_sub_cancel_left]
theorem VV.cells(h:VV w0 w m gv k N key skew s cv F):w.cell? ⟨gv,16,none⟩=some (.int .i64 skew)∧w.cell? ⟨gv,17,none⟩=some (.pointer (some ⟨m.g,0,none⟩))∧w.cell? ⟨gv,18,none⟩=some (.int .i64 s.now)∧w.cell? ⟨gv,19,none⟩=some cv:=
 ⟨(h.blk.cell 16).trans (verC_16 _ _ _ _ _ 0),(h.blk.cell 17).trans (verC_16 _ _ _ _ _ 1),(h.blk.cell 18).trans (verC_16 _ _ _ _ _ 2),(h.blk.cell 19).trans (verC_16 _ _ _ _ _ 3)⟩
structure VC(gv:Nat)(skew:Int)(g:Nat)(now:Int)(cv:Value)(W:World):Prop where
 c16:W.cell? ⟨gv,16,none⟩=some (.int .i64 skew)
 c17:W.cell? ⟨gv,17,none⟩=some (.pointer (some ⟨g,0,none⟩))
 c18:W.cell? ⟨gv,18,none⟩=some (.int .i64 now)
 c19:W.cell? ⟨gv,19,none⟩=some cv
theorem VV.vc(h:VV w0 w m gv k N key skew s cv F):VC gv skew m.g s.now cv w:=⟨h.cells.1,h.cells.2.1,h.cells.2.2.1,h.cells.2.2.2⟩
theorem VC.keep{g:Nat}{now:Int}(h:VC gv skew g now cv w)(hb:Below w.heap.size w w'):VC gv skew g now cv w':=⟨Below.cell' hb h.c16,Below.cell' hb h.c17,Below.cell' hb h.c18,Below.cell' hb h.c19⟩
theorem VV.krange(h:VV w0 w m gv k N key skew s cv F):w.rangeAt gv 0 (arr 16 (c8 key)):=fun j u hj=>by
 have hl:j<16:=by
  have:=(List.getElem?_eq_some_iff.1 hj).1
  rwa [arr_length] at this
 have h1:=h.blk.cell j
 rw[Nat.zero_add,h1]
 unfold verC
 rw[List.getElem?_toArray,List.getElem?_append_left (by rw[arr_length];exact hl),hj]
theorem VV.keep(h:VV w0 w m gv k N key skew s cv F)(hb:Below w.heap.size w w'):VV w0 w' m gv k N key skew s cv F:=
 ⟨h.st.keep hb,h.blk.keep hb,h.co.keep hb,h.far,h.lo,h.now,h.skew,h.len,h.few,h.rm⟩
theorem VV.drew(h:VV w0 w m gv k N key skew s cv F):VV w0 w.drew m gv k N key skew s cv F:=h.keep (Below.refl _ _).drew
theorem VV.up(h:VV w0 w m gv k N key skew s cv F)(hk:k≤k'):VV w0 w m gv k' N key skew s cv F:=
 ⟨h.st,h.blk,h.co.up (by omega),h.far,h.lo,h.now,h.skew,h.len,h.few,by have:=h.rm;omega⟩
theorem VT.refl:VT gv w m F w m F:=⟨CT.of_below (Below.refl _ _),fun _ h=>.inl h⟩
theorem VT.of_below(hb:Below w.heap.size w w'):VT gv w m F w' m F:=⟨CT.of_below hb,fun _ h=>.inl h⟩
theorem VT.trans(h:VT gv w m F w' m' F')(k:VT gv w' m' F' w'' m'' F''):VT gv w m F w'' m'' F'':=
 ⟨⟨k.ct.g.trans h.ct.g,h.ct.fo.trans k.ct.fo (fun x hx=>by
  rcases List.mem_append.1 hx with h1|h1
  ·rcases List.mem_cons.1 h1 with h2|h2
   ·exact .inl (List.mem_append.2 (.inl (List.mem_cons.2 (.inl h2))))
   ·exact(h.fs x h2).imp (fun h=>List.mem_append.2 (.inl (List.mem_cons.2 (.inr h)))) id
  ·exact(h.ct.sub x h1).imp (fun h=>List.mem_append.2 (.inr h)) id),fun x hx=>by
  rcases k.ct.sub x hx with h1|h1
  ·exact h.ct.sub x h1
  ·exact .inr (Nat.le_trans h.ct.fo.size h1),fun x v hx=>by
  rcases k.ct.cv x v hx with h1|h1
  ·exact h.ct.cv x v h1
  ·exact .inr (fun b e=>Nat.le_trans h.ct.fo.size (h1 b e))⟩,fun b hb=>by
  rcases k.fs b hb with h1|h1
  ·exact h.fs b h1
  ·exact .inr (Nat.le_trans h.ct.fo.size h1)⟩
theorem VT.undrew(h:VT gv w.drew m F w' m' F'):VT gv w m F w' m' F':=(VT.of_below (Below.refl _ _).drew).trans h
theorem VV.put(h:VV w0 w m gv k N key skew s cv F){now:Int}{cv':Value}{F':List Nat}{co:Option CacheD}{u:Value}(j:Nat)(hu:[Value.int .i64 skew,.pointer (some ⟨m.g,0,none⟩),.int .i64 s.now,cv].set j u=[Value.int .i64 skew,.pointer (some ⟨m.g,0,none⟩),.int .i64 now,cv'])
  (hc:CO w0 (w.setCell ⟨gv,16+j,none⟩ u) m s.d (30+k) cv' F' co) (hF:∀ b∈F',b∈F) (hn:0≤now∧now≤1099511627776):
  VV w0 (w.setCell ⟨gv,16+j,none⟩ u) m gv k N key skew ⟨s.d,now,co⟩ cv' F'∧VT gv w m F (w.setCell ⟨gv,16+j,none⟩ u) m F':=by
 have ho:Off gv w (w.setCell ⟨gv,16+j,none⟩ u):=(Off.refl gv w).set _ _
 have hb:=h.blk.set_ (16+j) u
 rw[verC_set,hu] at hb
 exact⟨⟨⟨h.st.dk.offO ho h.far.1,h.st.ft,h.st.bel.trans (ho.below h.lo h.st.bel.size)⟩,hb,hc,⟨h.far.1,fun hm=>h.far.2 (hF _ hm)⟩,h.lo,hn,h.skew,h.len,h.few,h.rm⟩,⟨CT.of_off ho (List.mem_cons_self ..),fun b hb=>.inl (hF b hb)⟩⟩
theorem CO.off{co:Option CacheD}{n g:Nat}{d:DiskD}(h:CO w0 w m d n cv F co)(ho:Off g w w')(hf:Far m F g):CO w0 w' m d n cv F co:=by
 refine h.imp id (fun⟨gc,gl,gi,bi,Cc,h1,h2,h3,h4,h5⟩=>⟨gc,gl,gi,bi,Cc,h1,h2,h3,?_,h5⟩)
 have hf2:=hf.2
 rw[h2] at hf2
 simp at hf2
 exact h4.off ho hf.1 hf2.1 hf2.2.1 hf2.2.2.1 hf2.2.2.2
theorem VV.drop(h:VV w0 w m gv k N key skew s cv F):VV w0 (w.setCell ⟨gv,19,none⟩ (.pointer none)) m gv k N key skew ⟨s.d,s.now,none⟩ (.pointer none) []∧VT gv w m F (w.setCell ⟨gv,19,none⟩ (.pointer none)) m []:=
 h.put 3 rfl (.inl ⟨rfl,rfl,rfl⟩) (fun _ h=>by cases h) h.now
theorem VV.clock(h:VV w0 w m gv k N key skew s cv F)(t:Int)(ht:0≤t∧t≤1099511627776):VV w0 (w.setCell ⟨gv,18,none⟩ (.int .i64 t)) m gv k N key skew ⟨s.d,t,s.co⟩ cv F∧VT gv w m F (w.setCell ⟨gv,18,none⟩ (.int .i64 t)) m F:=
 h.put 2 rfl (h.co.off ((Off.refl gv w).set _ _) h.far) (fun _ h=>h) ht
theorem VV.disk{d':DiskD}(h:VV w0 w m gv k N key skew s cv F)(hk:DK w' m' d')(ht:DT w m w' m')(hl:d'.sec.length=s.d.sec.length)(hr:d'.room≤200*k')(hkk:k≤k'):VV w0 w' m' gv k' N key skew ⟨d',s.now,s.co⟩ cv F∧VT gv w m F w' m' F:=by
 have hc:CT F w m w' m':=CT.of_dt ht
 refine⟨⟨h.st.next hk ht,?_,(h.co.disk hk ht hl).up (by omega),hc.far h.blk.lt h.far,h.lo,h.now,h.skew,hl.trans h.len,h.few,hr⟩,⟨CT.of_dt ht,fun _ h=>.inl h⟩⟩
 rw[ht.g]
 exact h.blk.ct hc h.far
theorem VV.cache{d':DiskD}{co:Option CacheD}(h:VV w0 w m gv k N key skew s cv F){G:List Nat}(hG:∀ b∈G,b∈F)(hk:DK w' m' d')(hco:CO w0 w' m' d' (30+k') cv F co)(ht:CT G w m w' m')(hl:d'.sec.length=s.d.sec.length)(hr:d'.room≤200*k'):VV w0 w' m' gv k' N key skew ⟨d',s.now,co⟩ cv F∧VT gv w m F w' m' F:=by
 have hc:CT F w m w' m':=ht.wide (fun x hx=>.inl (hG x hx))
 refine⟨⟨h.st.ct hk hc (fun b hb=>(h.co.far b hb).1),?_,hco,hc.far h.blk.lt h.far,h.lo,h.now,h.skew,hl.trans h.len,h.few,hr⟩,⟨hc.wide (fun x hx=>.inl (List.mem_cons.2 (.inr hx))),fun _ h=>.inl h⟩⟩
 rw[ht.g]
 exact h.blk.ct hc h.far
theorem VV.far_new(h:VV w0 w m gv k N key skew s cv F){b:Nat}(hb:w.heap.size≤b):Far m (gv :: F) b:=
 ⟨Apart.fresh h.st.dk hb,fun hm=>by
  rcases List.mem_cons.1 hm with h1|h1
  ·have:=h.blk.lt;omega
  ·have:=(h.co.far b h1).2;omega⟩
theorem VT.far(h:VT gv w m F w' m' F'){b:Nat}(hb:b<w.heap.size)(hf:Far m (gv :: F) b):Far m' (gv :: F') b:=
 ⟨(h.ct.far hb hf).1,fun hm=>hf.2 (by
  rcases List.mem_cons.1 hm with h1|h1
  ·exact List.mem_cons.2 (.inl h1)
  ·rcases h.fs b h1 with h2|h2
   ·exact List.mem_cons.2 (.inr h2)
   ·omega)⟩
end
def VE(w0 w:World)(gv g9 k N:Nat)(key:Nat→Nat)(skew:Int)(s:VS)(X:Nat→Prop):Prop:=∃ m cv F,m.g=g9∧VV w0 w m gv k N key skew s cv F∧∀ b,X b→Far m (gv :: F) b∧b<w.heap.size
structure XT(X:Nat→Prop)(w w':World):Prop where
 size:w.heap.size≤w'.heap.size
 block:∀ b,X b→w'.heap[b]? = w.heap[b]?
section
variable {w0 w w' w'' : World} {gv g9 k k' N : Nat} {key : Nat → Nat} {skew : Int} {s s' : VS} {X Y : Nat → Prop}
theorem XT.trans(h:XT X w w')(h':XT X w' w''):XT X w w'':=⟨Nat.le_trans h.size h'.size,fun b hb=>(h'.block b hb).trans (h.block b hb)⟩
theorem XT.refl:XT X w w:=⟨Nat.le_refl _,fun _ _=>rfl⟩
theorem XT.of_below(hX:∀ b,X b→b<w.heap.size)(hb:Below w.heap.size w w'):XT X w w':=⟨hb.size,fun b h=>hb.block b (hX b h)⟩
theorem VE.lt(h:VE w0 w gv g9 k N key skew s X):∀ b,X b→b<w.heap.size:=by
 obtain⟨m,cv,F,_,_,hx⟩:=h
 exact fun b hb=>(hx b hb).2
theorem VE.keep(h:VE w0 w gv g9 k N key skew s X)(hb:Below w.heap.size w w'):VE w0 w' gv g9 k N key skew s X:=by
 obtain⟨m,cv,F,hg,hv,hx⟩:=h
 exact⟨m,cv,F,hg,hv.keep hb,fun b h=>⟨(hx b h).1,Nat.lt_of_lt_of_le (hx b h).2 hb.size⟩⟩
theorem VE.add(h:VE w0 w gv g9 k N key skew s X)(hb:Below w.heap.size w w')(hY:∀ b,Y b→X b∨(w.heap.size≤b∧b<w'.heap.size)):VE w0 w' gv g9 k N key skew s Y:=by
 obtain⟨m,cv,F,hg,hv,hx⟩:=h
 refine⟨m,cv,F,hg,hv.keep hb,fun b h=>?_⟩
 rcases hY b h with h1|h1
 ·exact⟨(hx b h1).1,Nat.lt_of_lt_of_le (hx b h1).2 hb.size⟩
 ·exact⟨hv.far_new h1.1,h1.2⟩
theorem VE.less(h:VE w0 w gv g9 k N key skew s X)(hY:∀ b,Y b→X b):VE w0 w gv g9 k N key skew s Y:=by
 obtain⟨m,cv,F,hg,hv,hx⟩:=h
 exact⟨m,cv,F,hg,hv,fun b h=>hx b (hY b h)⟩
theorem VE.up(h:VE w0 w gv g9 k N key skew s X)(hk:k≤k'):VE w0 w gv g9 k' N key skew s X:=by
 obtain⟨m,cv,F,hg,hv,hx⟩:=h
 exact⟨m,cv,F,hg,hv.up hk,hx⟩
theorem VE.bel(h:VE w0 w gv g9 k N key skew s X):Below w0.heap.size w0 w:=by
 obtain⟨m,cv,F,hg,hv,hx⟩:=h
 exact hv.st.bel
theorem VE.of{m m':DiskM}{cv':Value}{F F':List Nat}(hx:∀ b,X b→Far m (gv :: F) b∧b<w.heap.size)(hg:m.g=g9)(hv:VV w0 w' m' gv k N key skew s cv' F')(ht:VT gv w m F w' m' F'):VE w0 w' gv g9 k N key skew s X∧XT X w w':=
 ⟨⟨m',cv',F',ht.ct.g.trans hg,hv,fun b h=>⟨ht.far (hx b h).2 (hx b h).1,Nat.lt_of_lt_of_le (hx b h).2 ht.ct.fo.size⟩⟩,⟨ht.ct.fo.size,fun b h=>ht.ct.block (hx b h).2 (hx b h).1⟩⟩
end
end
section
open Go.RowKit
attribute [local irreducible] wpQuiet wpAnyH
def lookS(s:VS):VS:=if s.d.down then ⟨s.d,s.now,none⟩ else s
def tickN(now n:Int):Int:=if 1099511627776-now<n then 1099511627776 else if 0<n then now+n else now
def tickS(s:VS)(n:Int):VS:=⟨s.d,tickN s.now n,(lookS s).co⟩
theorem lookS_now(s:VS):(lookS s).now=s.now:=by unfold lookS;split <;> rfl
theorem lookS_d(s:VS):(lookS s).d=s.d:=by unfold lookS;split <;> rfl
theorem lookS_look(s:VS):lookS (lookS s)=lookS s:=by
 unfold lookS
 split <;> rfl
theorem tickN_bd{now n:Int}(h:0≤now∧now≤1099511627776):0≤tickN now n∧tickN now n≤1099511627776:=by unfold tickN;split <;> (try split) <;> omega
section
variable {w0 w : World} {m : DiskM} {gv k N : Nat} {key : Nat → Nat} {skew : Int} {s : VS} {cv : Value} {F : List Nat} {d : DiskD}
theorem disk_down(h:DK w m d):Calls Tryz.prog 118 #[.pointer (some ⟨m.g,0,none⟩)] w fun e w'=>e = .returned (.bool d.down)∧w'=w:=by
 have hc3:=h.blk.cell 3
 simp only[diskC,List.getElem?_toArray,List.getElem?_cons_succ,List.getElem?_cons_zero] at hc3
 clear h
 go_enter Tryz.func118,Tryz.ntmps118
 go_wp2_with fail
 go_ret
 exact⟨rfl,rfl⟩
def LookP(w0 w:World)(m:DiskM)(gv k N:Nat)(key:Nat→Nat)(skew:Int)(s:VS)(cv:Value)(F:List Nat)(w':World):Prop:=∃ cv' F',VV w0 w' m gv k N key skew s cv' F'∧VT gv w m F w' m F'∧(∀ b∈F',b∈F)∧(w'=w∨w'=w.setCell ⟨gv,19,none⟩ (.pointer none))
theorem v_look(h:VV w0 w m gv k N key skew s cv F):Calls Tryz.prog 77 #[.pointer (some ⟨gv,0,none⟩)] w fun e w'=>e = .returned (.tuple #[])∧LookP w0 w m gv k N key skew (lookS s) cv F w':=by
 obtain⟨c16,c17,c18,c19⟩:=h.cells
 have f19:=h.blk.frozen 19
 have HD:=Lib.hid (disk_down h.st.dk)
 have H:=Lib.hid h
 clear h
 rcases Bool.eq_false_or_eq_true s.d.down with t|t
 ·have HL:Hid (lookS s=⟨s.d,s.now,none⟩):=Lib.hid (if_pos t)
  rw[t] at HD
  clear t
  go_enter Tryz.func77,Tryz.ntmps77
  go_wp2_with (go_at_call 118;refine HD.mono ?_;rintro e w1 ⟨rfl,rfl⟩)
  refine bodyPost_end (results_none rfl _ _ _) rfl ⟨rfl,?_⟩
  rw[HL.out]
  exact⟨_,_,H.out.drop.1,H.out.drop.2,(fun _ h=>by cases h),.inr rfl⟩
 ·have HL:Hid (lookS s=s):=Lib.hid (if_neg (by rw[t];decide))
  rw[t] at HD
  clear t
  go_enter Tryz.func77,Tryz.ntmps77
  go_wp2_with (go_at_call 118;refine HD.mono ?_;rintro e w1 ⟨rfl,rfl⟩)
  refine bodyPost_end (results_none rfl _ _ _) rfl ⟨rfl,?_⟩
  rw[HL.out]
  exact⟨_,_,H.out,VT.refl,(fun _ h=>h),.inl rfl⟩
theorem v_now(h:VV w0 w m gv k N key skew s cv F):Calls Tryz.prog 47 #[.pointer (some ⟨gv,0,none⟩)] w fun e w'=>e = .returned (.int .i64 s.now)∧∃ cv' F',VV w0 w' m gv k N key skew (lookS s) cv' F'∧VT gv w m F w' m F':=by
 have HL:=Lib.hid (v_look h)
 have HN:Hid ((lookS s).now=s.now):=Lib.hid (lookS_now s)
 clear h
 go_enter Tryz.func47,Tryz.ntmps47
 go_wp2_with fail
 refine HL.mono ?_
 rintro e w1 ⟨rfl,cv1,F1,h1,h2,_⟩
 obtain⟨_,_,c18,_⟩:=h1.cells
 rw[HN.out] at c18
 have H1:=Lib.hid h1
 have H2:=Lib.hid h2
 clear h1 h2 HL
 go_wp2_with fail
 go_ret
 exact⟨rfl,_,_,H1.out,H2.out⟩
theorem v_booted(h:VV w0 w m gv k N key skew s cv F):Calls Tryz.prog 78 #[.pointer (some ⟨gv,0,none⟩)] w fun e w'=>e = .returned (.bool (lookS s).co.isSome)∧∃ cv' F',VV w0 w' m gv k N key skew (lookS s) cv' F'∧VT gv w m F w' m F':=by
 have HL:=Lib.hid (v_look h)
 clear h
 obtain⟨b,hb⟩:∃ b,b=(lookS s).co.isSome:=⟨_,rfl⟩
 rw[← hb]
 have HB:=Lib.hid hb
 clear hb
 go_enter Tryz.func78,Tryz.ntmps78
 go_wp2_with fail
 refine HL.mono ?_
 rintro e w1 ⟨rfl,cv1,F1,h1,h2,_⟩
 obtain⟨_,_,_,c19⟩:=h1.cells
 have hco:=h1.co
 have H1:=Lib.hid h1
 have H2:=Lib.hid h2
 clear h1 h2 HL
 rcases hco with ⟨rfl,_,hc⟩|⟨gc,gl,gi,bi,C,rfl,_,hc,_⟩
 all_goals
  have HC:=Lib.hid hc
  clear hc
  go_wp2_with fail
  go_ret
  exact⟨by rw[HB.out,HC.out];rfl,_,_,H1.out,H2.out⟩
theorem v_tick(n:Int)(hn:isI64 n)(h:VV w0 w m gv k N key skew s cv F):Calls Tryz.prog 68 #[.pointer (some ⟨gv,0,none⟩),.int .i64 n] w fun e w'=>e = .returned (.int .i64 (tickN s.now n))∧∃ cv' F',VV w0 w' m gv k N key skew (tickS s n) cv' F'∧VT gv w m F w' m F':=by
 have HL:=Lib.hid (v_look h)
 have HN:Hid ((lookS s).now=s.now):=Lib.hid (lookS_now s)
 have HSD:Hid ((lookS s).d=s.d):=Lib.hid (lookS_d s)
 have hb:=h.now
 have HB:=Lib.hid (tickN_bd (n:=n) h.now)
 unfold isI64 at hn
 clear h
 have t1:=Int.lt_or_le (1099511627776-s.now) n
 obtain⟨t,ht⟩:∃ t,s.now=t:=⟨_,rfl⟩
 rw[ht] at hb t1 HN HB ⊢
 have HQ:Hid (tickN t n=if 1099511627776-t<n then 1099511627776 else if 0<n then t+n else t):=Lib.hid rfl
 have HTS:Hid (tickS s n=⟨s.d,tickN t n,(lookS s).co⟩):=Lib.hid (by unfold tickS;rw[ht])
 clear ht
 rcases t1 with t1|t1
 ·rw[if_pos t1] at HQ
  go_enter Tryz.func68,Tryz.ntmps68
  go_wp2_with fail
  refine HL.mono ?_
  rintro e w1 ⟨rfl,cv1,F1,h1,h2,_⟩
  obtain⟨_,_,c18,_⟩:=h1.cells
  have f18:=h1.blk.frozen 18
  rw[HN.out] at c18
  have H1:=Lib.hid h1
  have H2:=Lib.hid h2
  clear h1 h2 HL
  go_wp2_with fail
  go_ret
  have h3:=H1.out.clock 1099511627776 (by omega)
  refine⟨by rw[HQ.out];rfl,cv1,F1,?_,H2.out.trans h3.2⟩
  rw[HTS.out,HQ.out,← HSD.out]
  exact h3.1
 have t1':¬(1099511627776-t<n):=by omega
 rw[if_neg t1'] at HQ
 rcases Int.lt_or_le 0 n with t2|t2
 ·rw[if_pos t2] at HQ
  have hs:t+n≤1099511627776:=by omega
  go_enter Tryz.func68,Tryz.ntmps68
  go_wp2_with fail
  refine HL.mono ?_
  rintro e w1 ⟨rfl,cv1,F1,h1,h2,_⟩
  obtain⟨_,_,c18,_⟩:=h1.cells
  have f18:=h1.blk.frozen 18
  rw[HN.out] at c18
  have H1:=Lib.hid h1
  have H2:=Lib.hid h2
  clear h1 h2 HL
  go_wp2_with fail
  go_ret
  have h3:=H1.out.clock (t+n) (by omega)
  refine⟨by rw[HQ.out];rfl,cv1,F1,?_,H2.out.trans h3.2⟩
  rw[HTS.out,HQ.out,← HSD.out]
  exact h3.1
 ·have t2':¬(0<n):=by omega
  rw[if_neg t2'] at HQ
  go_enter Tryz.func68,Tryz.ntmps68
  go_wp2_with fail
  refine HL.mono ?_
  rintro e w1 ⟨rfl,cv1,F1,h1,h2,_⟩
  obtain⟨_,_,c18,_⟩:=h1.cells
  have f18:=h1.blk.frozen 18
  rw[HN.out] at c18
  have H1:=Lib.hid h1
  have H2:=Lib.hid h2
  clear h1 h2 HL
  go_wp2_with fail
  go_ret
  refine⟨by rw[HQ.out];rfl,cv1,F1,?_,H2.out⟩
  rw[HTS.out,HQ.out,← HSD.out,← HN.out]
  exact H1.out
end
end
section
open Go.RowKit
attribute [local irreducible] wpQuiet wpAnyH
theorem ver_built(key:Nat→Nat)(skew:Int)(g:Nat):Tryz.prog.built 154 [(0,.agg (arr 16 (c8 key)).toArray),(1,.int .i64 skew),(2,.pointer (some ⟨g,0,none⟩))]=some (verC key skew g 0 (.pointer none)):=by unfold verC;kernel_rfl
def bootS(skew:Int)(s:VS):Ans×VS:=match (openR (startD s.d)).2.2 with
 | none=>((openR (startD s.d)).1,⟨(openR (startD s.d)).2.1,s.now,none⟩)
 | some (L,es)=>((openR (startD s.d)).1,⟨(openR (startD s.d)).2.1,s.now,some ⟨L,liveL (refOf es) s.now,addS s.now skew⟩⟩)
def liveS(s:VS):EL:=match (lookS s).co with
 | none=>[]
 | some C=>liveL C.E s.now
def compS(s:VS):Ans×VS:=match (lookS s).co with
 | none=>(some (12,none),lookS s)
 | some C=>((cmpR s.d (s.d.sec.length/2) C s.now).1,lookS ⟨(cmpR s.d (s.d.sec.length/2) C s.now).2.1,s.now,some (cmpR s.d (s.d.sec.length/2) C s.now).2.2⟩)
section
variable {w0 w w' : World} {m m' : DiskM} {gv k N : Nat} {key : Nat → Nat} {skew : Int} {s : VS} {cv : Value} {F : List Nat} {d : DiskD}
theorem v_new(key:Nat→Nat)(skew:Int)(hs:1≤skew∧skew≤1073741824)(h:St w0 w m d)(hl:d.sec.length=N)(hN:N≤30)(hr:d.room≤200*k):
  Calls Tryz.prog 40 #[.agg (arr 16 (c8 key)).toArray,.int .i64 skew,.pointer (some ⟨m.g,0,none⟩)] w fun e w'=>∃ gv,e = .returned (.pointer (some ⟨gv,0,none⟩))∧VV w0 w' m gv k N key skew ⟨d,0,none⟩ (.pointer none) []∧Below w.heap.size w w'∧w.heap.size≤gv:=by
 have H:=Lib.hid h
 have HL:=Lib.hid hl
 have HS:=Lib.hid hs
 have hs1:¬skew<1:=by omega
 have hs2:¬(1073741824:Int)<skew:=by omega
 have hs3:skew≤1073741824:=hs.2
 have hs4:1≤skew:=hs.1
 obtain⟨g,hg⟩:∃ g,g=m.g:=⟨_,rfl⟩
 have HBL:=Lib.hid (ver_built key skew m.g)
 rw[← hg] at HBL ⊢
 have HG:=Lib.hid hg
 obtain⟨w1,hw1⟩:∃ W,W=w.alloc (.cells (arr 16 (c8 key)).toArray 35):=⟨_,rfl⟩
 have HB1:Hid (Below w.heap.size w w1):=Lib.hid (by rw[hw1];exact bel1 _ _)
 have HK1:Hid (Blk w1 w.heap.size 35 (arr 16 (c8 key)).toArray):=Lib.hid (by rw[hw1];exact Blk.new _ _ _)
 have hrk:w1.rangeAt w.heap.size 0 (arr 16 (c8 key)):=by have:=HK1.range;rwa [List.toList_toArray] at this
 have hki:(Tryz.prog.info? 35).map (·.size)=some (arr 16 (c8 key)).length:=by rw[arr_length];kernel_rfl
 obtain⟨w2,hw2⟩:∃ W,W=w1.alloc (.cells (verC key skew g 0 (.pointer none)) 154):=⟨_,rfl⟩
 have HB2:Hid (Below w1.heap.size w1 w2):=Lib.hid (by rw[hw2];exact bel1 _ _)
 have HK2:Hid (Blk w2 w1.heap.size 154 (verC key skew g 0 (.pointer none))):=Lib.hid (by rw[hw2];exact Blk.new _ _ _)
 have HRK:=Lib.hid hrk
 have HKI:=Lib.hid hki
 clear hrk hki
 clear h hl hs hg
 go_enter Tryz.func40,Tryz.ntmps40
 go_upto_region 1 with fail
 rw[← hw1]
 clear hw1
 go_upto_region 3 with fail
 go_wp2_with (first
  | (refine ld 35 (.tmp 3) rfl rfl (by rfl) HRK.out Tryz.underlying35 rfl HKI.out ?_)
  | (refine bldC 154 _ rfl rfl (by rfl) HBL.out ?_))
 rw[← hw2]
 clear hw2
 go_ret
 refine⟨_,rfl,?_,bstep HB1.out HB2.out,HB1.size⟩
 have h1:=H.out.keep (bstep HB1.out HB2.out)
 have hb:=HK2.out
 rw[HG.out] at hb
 exact⟨h1,hb,.inl ⟨rfl,rfl,rfl⟩,⟨Apart.fresh H.out.dk HB1.size,fun hm=>by cases hm⟩,Nat.le_trans H.out.bel.size HB1.size,⟨Int.le_refl _,by show(0:Int)≤_;omega⟩,HS.out,HL.out,hN,hr⟩
theorem VV.opened{d1 d':DiskD}{gc gl gi bi n k':Nat}{C:CacheD}{w1:World}(h:VV w0 w1 m gv k N key skew ⟨d1,s.now,none⟩ (.pointer none) [])(hk:DK w' m' d')(ht:DT w1 m w' m')(hl:d'.sec.length=d1.sec.length)(hr:d'.room≤200*k')(hkk:k≤k')
  (hck:CK w' m' d' gc gl gi bi (d1.sec.length/2) n C) (hn:n≤30+k') (h1:w1.heap.size≤gc∧w1.heap.size≤gl∧w1.heap.size≤gi∧w1.heap.size≤bi):
  VV w0 (w'.setCell ⟨gv,19,none⟩ (.pointer (some ⟨gc,0,none⟩))) m' gv k' N key skew ⟨d',s.now,some C⟩ (.pointer (some ⟨gc,0,none⟩)) [gl,bi,gc,gi]∧VT gv w1 m [] (w'.setCell ⟨gv,19,none⟩ (.pointer (some ⟨gc,0,none⟩))) m' [gl,bi,gc,gi]:=by
 obtain⟨hv,hvt⟩:=h.disk hk ht hl hr hkk
 have hlt:=h.blk.lt
 have ho:Off gv w' (w'.setCell ⟨gv,19,none⟩ (.pointer (some ⟨gc,0,none⟩))):=(Off.refl gv w').set _ _
 have hb:=hv.blk.set_ (16+3) (.pointer (some ⟨gc,0,none⟩))
 rw[verC_set] at hb
 have hbl:∀ b∈[gl,bi,gc,gi],w1.heap.size≤b:=fun b hb=>by
  simp at hb
  rcases hb with rfl|rfl|rfl|rfl
  ·exact h1.2.1
  ·exact h1.2.2.2
  ·exact h1.1
  ·exact h1.2.2.1
 have hsz:=h.st.bel.size
 refine⟨⟨⟨hv.st.dk.offO ho hv.far.1,hv.st.ft,hv.st.bel.trans (ho.below h.lo hv.st.bel.size)⟩,hb,.inr ⟨gc,gl,gi,bi,C,rfl,rfl,rfl,?_,fun b hb=>Nat.le_trans hsz (hbl b hb)⟩,⟨hv.far.1,fun hm=>by have:=hbl gv hm;omega⟩,h.lo,h.now,h.skew,hv.len,h.few,hr⟩,⟨hvt.ct.trans (CT.of_off ho (List.mem_cons_self ..)),fun b hb=>.inr (hbl b hb)⟩⟩
 show CK _ m' d' gc gl gi bi (d'.sec.length/2) (30+k') C
 rw[hl]
 exact(hck.up hn).off ho hv.far.1 (by omega) (by omega) (by omega) (by omega)
theorem v_boot(h:VV w0 w m gv k N key skew s cv F)(hk:k≤200):Calls Tryz.prog 69 #[.pointer (some ⟨gv,0,none⟩)] w fun e w'=>e = .returned (valE (bootS skew s).1)∧∃ m' cv' F',VV w0 w' m' gv (k+1) N key skew (bootS skew s).2 cv' F'∧VT gv w m F w' m' F':=by
 obtain⟨c16,c17,c18,c19⟩:=h.cells
 have f19:=h.blk.frozen 19
 obtain⟨hd1,hd2⟩:=h.drop
 obtain⟨w1,hw1⟩:∃ W,W=w.setCell ⟨gv,19,none⟩ (.pointer none):=⟨_,rfl⟩
 rw[← hw1] at hd1 hd2
 have HST:=Lib.hid (disk_start w1 m s.d hd1.st.dk)
 obtain⟨b16,b17,b18,b19⟩:=hd1.cells
 obtain⟨g9,hg9⟩:∃ g,g=m.g:=⟨_,rfl⟩
 rw[← hg9] at c17 b17 HST
 have HG9:=Lib.hid hg9
 have hsk:=h.skew
 have hnw:=h.now
 have HD1:=Lib.hid hd1
 have HD2:=Lib.hid hd2
 clear h hd1 hd2 hg9
 obtain⟨now,hnow⟩:∃ t,t=s.now:=⟨_,rfl⟩
 replace b18:w1.cell? ⟨gv,18,none⟩=some (.int .i64 now):=by rw[hnow];exact b18
 rw[← hnow] at c18 hnw
 have HNW:=Lib.hid hnow
 clear hnow c16 c18
 go_enter Tryz.func69,Tryz.ntmps69
 go_wp2_with fail
 rw[← hw1]
 clear hw1 c17 c19 f19
 refine HST.mono ?_
 rintro e w2 ⟨rfl,hk2,ht2⟩
 have hv2:=HD1.disk hk2 ht2 rfl HD1.rm (Nat.le_refl _)
 obtain⟨e16,e17,e18,e19⟩:=hv2.1.cells
 replace e17:w2.cell? ⟨gv,17,none⟩=some (.pointer (some ⟨g9,0,none⟩)):=by rw[HG9.out];exact e17
 replace e18:w2.cell? ⟨gv,18,none⟩=some (.int .i64 now):=by rw[HNW.out];exact e18
 have f2:=hv2.1.blk.frozen 19
 have hrm:(startD s.d).room≤200*k:=hv2.1.rm
 have hln:(startD s.d).sec.length=N:=hv2.1.len
 have hfw:=hv2.1.few
 have HOP:=Lib.hid (c_open skew now w2.drew m (startD s.d) hv2.1.drew.st.dk (by omega) (by omega) ⟨by omega,by omega⟩ ⟨by omega,by omega⟩)
 have HBD:=Lib.hid (openR_bd hk2.ok.st)
 have HLN:=Lib.hid (openR_len (startD s.d))
 have HCS:=Lib.hid (openR_cases (startD s.d))
 rw[← HG9.out] at HOP
 have HV2:=Lib.hid hv2
 clear hv2 hk2 ht2 HST b16 b17 b18 b19
 have HR:Hid (bootS skew s=match (generalizing:=false) (openR (startD s.d)).2.2 with
  | none=>((openR (startD s.d)).1,⟨(openR (startD s.d)).2.1,s.now,none⟩)
  | some (L,es)=>((openR (startD s.d)).1,⟨(openR (startD s.d)).2.1,s.now,some ⟨L,liveL (refOf es) s.now,addS s.now skew⟩⟩)):=Lib.hid rfl
 rcases HCS.out with ⟨x,h1,h2⟩|⟨L,es,h1,h2,h3⟩
 ·have HR2:Hid (bootS skew s=(some x,⟨(openR (startD s.d)).2.1,s.now,none⟩)):=Lib.hid (by rw[HR.out,h2,h1])
  rw[h1] at HOP
  obtain⟨ty,u,hv⟩:=valE_form x
  have HVE:=Lib.hid hv
  rw[hv] at HOP
  have hne:=neq_nil ty u
  clear hv h1 h2 HR HCS
  go_wp2_with fail
  -- region 5a
  have HVC:Hid (VC gv skew g9 now (.pointer none) w2.drew):=Lib.hid (by rw[HG9.out,HNW.out];exact HV2.out.1.drew.vc)
  refine kZ (n:=18) (VC gv skew g9 now (.pointer none)) (HVC.out) (h:=fun hH=>?_)
  refine kM 0 (some 17) (.pointer (some ⟨gv,0,none⟩)) (h:=?_)
  simp only[p1,p2,p3,p4,p5]
  refine kT 1 (some 18) (.pointer (some ⟨gv,0,none⟩)) (h:=?_)
  simp only[p1,p2,p3,p4,p5]
  refine kT 2 (some 19) (.pointer (some ⟨gv,17,none⟩)) (h:=?_)
  simp only[p1,p2,p3,p4,p5]
  refine kC 3 (some 20) (v:=.pointer (some ⟨g9,0,none⟩)) (fun W hX=>hX.c17) (h:=?_)
  simp only[p1,p2,p3,p4,p5]
  refine kM 4 (some 21) (.pointer (some ⟨gv,0,none⟩)) (h:=?_)
  simp only[p1,p2,p3,p4,p5]
  refine kT 5 (some 22) (.pointer (some ⟨gv,0,none⟩)) (h:=?_)
  simp only[p1,p2,p3,p4,p5]
  refine kT 6 (some 23) (.pointer (some ⟨gv,16,none⟩)) (h:=?_)
  simp only[p1,p2,p3,p4,p5]
  refine kC 7 (some 24) (v:=.int .i64 skew) (fun W hX=>hX.c16) (h:=?_)
  simp only[p1,p2,p3,p4,p5]
  refine kM 8 (some 25) (.pointer (some ⟨gv,0,none⟩)) (h:=?_)
  simp only[p1,p2,p3,p4,p5]
  refine kT 9 (some 26) (.pointer (some ⟨gv,0,none⟩)) (h:=?_)
  simp only[p1,p2,p3,p4,p5]
  refine kT 10 (some 27) (.pointer (some ⟨gv,18,none⟩)) (h:=?_)
  simp only[p1,p2,p3,p4,p5]
  refine kC 11 (some 28) (v:=.int .i64 now) (fun W hX=>hX.c18) (h:=?_)
  simp only[p1,p2,p3,p4,p5]
  refine kF 12 (some 29) ((HOP.out).mono ?_)
  rintro e w3 ⟨pc,m3,rfl,hk3,ht3,_⟩
  have hv3:=HV2.out.1.drew.disk (k':=k+1) hk3 ht3 HLN.out (by have:=HBD.out;omega) (by omega)
  have HV3:=Lib.hid hv3
  have HVC3:Hid (VC gv skew g9 now (.pointer none) w3):=Lib.hid (by rw[HG9.out,HNW.out,← ht3.g];exact hv3.1.vc)
  clear hk3 ht3 hv3
  refine⟨_,rfl,HVC3.out,fun hH=>?_⟩
  simp only[p1,p2,p3,p4,p5]
  refine kM 13 (some 16) (.tuple #[pc,.iface ty u]) (h:=?_)
  simp only[p1,p2,p3,p4,p5]
  refine kT 14 (some 30) (pc) (h:=?_)
  simp only[p1,p2,p3,p4,p5]
  refine kT 15 (some 31) (.iface ty u) (h:=?_)
  simp only[p1,p2,p3,p4,p5]
  refine kT 16 (some 3) (pc) (h:=?_)
  simp only[p1,p2,p3,p4,p5]
  refine kT 17 (some 4) (.iface ty u) (h:=?_)
  simp only[p1,p2,p3,p4,p5]
  refine kE (h:=?_)
  clear hH HVC
  -- end of region 5a
  go_wp2_with fail
  go_ret
  refine⟨by rw[HR2.out];exact congrArg Ending.returned HVE.symm,m3,.pointer none,[],?_,HD2.trans (HV2.out.2.trans HV3.out.2.undrew)⟩
  rw[HR2.out]
  exact HV3.out.1
 ·have HR2:Hid (bootS skew s=(none,⟨(openR (startD s.d)).2.1,s.now,some ⟨L,liveL (refOf es) s.now,addS s.now skew⟩⟩)):=Lib.hid (by rw[HR.out,h2,h1])
  have hvn:valE none = .nilIface:=rfl
  rw[h1,hvn] at HOP
  have hne:=eq_nilL
  have H2:=Lib.hid h2
  have H3:=Lib.hid h3
  clear h1 h2 h3 HR HCS hvn
  go_wp2_with fail
  -- region 5b
  have HVC:Hid (VC gv skew g9 now (.pointer none) w2.drew):=Lib.hid (by rw[HG9.out,HNW.out];exact HV2.out.1.drew.vc)
  refine kZ (n:=18) (VC gv skew g9 now (.pointer none)) (HVC.out) (h:=fun hH=>?_)
  refine kM 0 (some 17) (.pointer (some ⟨gv,0,none⟩)) (h:=?_)
  simp only[p1,p2,p3,p4,p5]
  refine kT 1 (some 18) (.pointer (some ⟨gv,0,none⟩)) (h:=?_)
  simp only[p1,p2,p3,p4,p5]
  refine kT 2 (some 19) (.pointer (some ⟨gv,17,none⟩)) (h:=?_)
  simp only[p1,p2,p3,p4,p5]
  refine kC 3 (some 20) (v:=.pointer (some ⟨g9,0,none⟩)) (fun W hX=>hX.c17) (h:=?_)
  simp only[p1,p2,p3,p4,p5]
  refine kM 4 (some 21) (.pointer (some ⟨gv,0,none⟩)) (h:=?_)
  simp only[p1,p2,p3,p4,p5]
  refine kT 5 (some 22) (.pointer (some ⟨gv,0,none⟩)) (h:=?_)
  simp only[p1,p2,p3,p4,p5]
  refine kT 6 (some 23) (.pointer (some ⟨gv,16,none⟩)) (h:=?_)
  simp only[p1,p2,p3,p4,p5]
  refine kC 7 (some 24) (v:=.int .i64 skew) (fun W hX=>hX.c16) (h:=?_)
  simp only[p1,p2,p3,p4,p5]
  refine kM 8 (some 25) (.pointer (some ⟨gv,0,none⟩)) (h:=?_)
  simp only[p1,p2,p3,p4,p5]
  refine kT 9 (some 26) (.pointer (some ⟨gv,0,none⟩)) (h:=?_)
  simp only[p1,p2,p3,p4,p5]
  refine kT 10 (some 27) (.pointer (some ⟨gv,18,none⟩)) (h:=?_)
  simp only[p1,p2,p3,p4,p5]
  refine kC 11 (some 28) (v:=.int .i64 now) (fun W hX=>hX.c18) (h:=?_)
  simp only[p1,p2,p3,p4,p5]
  refine kF 12 (some 29) ((HOP.out).mono ?_)
  rintro e w3 ⟨pc,m3,rfl,hk3,ht3,hcw⟩
  unfold CacheW at hcw
  rw[H2.out] at hcw
  obtain⟨gc,gl,gi,bi,rfl,hck,g1,g2,g3,g4,_⟩:=hcw
  have hv3:=HV2.out.1.drew.opened (k':=k+1) hk3 ht3 HLN.out (by have:=HBD.out;omega) (by omega) hck (by have:=H3.out;omega) ⟨g1,g2,g3,g4⟩
  have hbk:=(HV2.out.1.drew.disk (k':=k+1) hk3 ht3 HLN.out (by have:=HBD.out;omega) (by omega)).1
  have HVC3:Hid (VC gv skew g9 now (.pointer none) w3):=Lib.hid (by rw[HG9.out,HNW.out,← ht3.g];exact hbk.vc)
  have d19:=hbk.cells.2.2.2
  have f3:=hbk.blk.frozen 19
  have HV3:=Lib.hid hv3
  clear hk3 ht3 hck g1 g2 g3 g4 hv3 hbk
  refine⟨_,rfl,HVC3.out,fun hH=>?_⟩
  simp only[p1,p2,p3,p4,p5]
  refine kM 13 (some 16) (.tuple #[.pointer (some ⟨gc,0,none⟩),.nilIface]) (h:=?_)
  simp only[p1,p2,p3,p4,p5]
  refine kT 14 (some 30) (.pointer (some ⟨gc,0,none⟩)) (h:=?_)
  simp only[p1,p2,p3,p4,p5]
  refine kT 15 (some 31) (.nilIface) (h:=?_)
  simp only[p1,p2,p3,p4,p5]
  refine kT 16 (some 3) (.pointer (some ⟨gc,0,none⟩)) (h:=?_)
  simp only[p1,p2,p3,p4,p5]
  refine kT 17 (some 4) (.nilIface) (h:=?_)
  simp only[p1,p2,p3,p4,p5]
  refine kE (h:=?_)
  clear hH HVC
  -- end of region 5b
  go_wp2_with fail
  go_ret
  refine⟨by rw[HR2.out];rfl,m3,.pointer (some ⟨gc,0,none⟩),[gl,bi,gc,gi],?_,HD2.trans (HV2.out.2.trans HV3.out.2.undrew)⟩
  rw[HR2.out,← HNW.out]
  have h:=HV3.out.1
  rw[← HNW.out] at h
  exact h
theorem v_live(h:VV w0 w m gv k N key skew s cv F)(hk:k≤200):Calls Tryz.prog 48 #[.pointer (some ⟨gv,0,none⟩)] w fun e w'=>∃ v,e = .returned v∧Sn w' 33 v (liveS s).length ((liveS s).flatMap entP)∧∃ cv' F',VV w0 w' m gv k N key skew (lookS s) cv' F'∧VT gv w m F w' m F':=by
 have HBT:=Lib.hid (v_booted h)
 have HN:Hid ((lookS s).now=s.now):=Lib.hid (lookS_now s)
 clear h
 have HLV:Hid (liveS s=match (generalizing:=false) (lookS s).co with|none=>[]|some C=>liveL C.E s.now):=Lib.hid rfl
 obtain⟨co,hco⟩:∃ c,c=(lookS s).co:=⟨_,rfl⟩
 rw[← hco] at HBT HLV
 have HCO:=Lib.hid hco
 clear hco
 cases co with
 | none=>
  have hb:(none:Option CacheD).isSome=false:=rfl
  rw[hb] at HBT
  clear hb
  go_enter Tryz.func48,Tryz.ntmps48
  go_wp2_with fail
  refine HBT.mono ?_
  rintro e w1 ⟨rfl,cv1,F1,h1,h2⟩
  have H1:=Lib.hid h1
  have H2:=Lib.hid h2
  clear h1 h2 HBT
  go_wp2_with fail
  go_ret
  rw[HLV.out]
  exact⟨_,rfl,⟨none,0,rfl,Nat.le_refl _,rfl,fun h=>absurd h (by simp)⟩,_,_,H1.out,H2.out⟩
 | some C=>
  have hb:(some C:Option CacheD).isSome=true:=rfl
  rw[hb] at HBT
  clear hb
  go_enter Tryz.func48,Tryz.ntmps48
  go_wp2_with fail
  refine HBT.mono ?_
  rintro e w1 ⟨rfl,cv1,F1,h1,h2⟩
  obtain⟨_,_,c18,c19⟩:=h1.cells
  rw[HN.out] at c18
  have hco:=h1.co
  rw[← HCO.out] at hco
  rcases hco with ⟨_,_,hc⟩|⟨gc,gl,gi,bi,C',rfl,_,hc,hck,_⟩
  ·cases hc
  injection hc with hc
  subst hc
  have HCL:=Lib.hid (c_live s.now (hck.keep (Below.refl _ _).drew) (by omega))
  have H1:=Lib.hid h1
  have H2:=Lib.hid h2
  clear h1 h2 HBT hck
  go_wp2_with fail
  -- region L
  have HVC:Hid (VC gv skew m.g s.now (.pointer (some ⟨gc,0,none⟩)) w1.drew):=Lib.hid (by rw[← HN.out];exact H1.out.drew.vc)
  refine kZ (n:=10) (VC gv skew m.g s.now (.pointer (some ⟨gc,0,none⟩))) (HVC.out) (h:=fun hH=>?_)
  refine kM 0 (some 6) (.pointer (some ⟨gv,0,none⟩)) (h:=?_)
  simp only[p1,p2,p3,p4,p5]
  refine kT 1 (some 7) (.pointer (some ⟨gv,0,none⟩)) (h:=?_)
  simp only[p1,p2,p3,p4,p5]
  refine kT 2 (some 8) (.pointer (some ⟨gv,19,none⟩)) (h:=?_)
  simp only[p1,p2,p3,p4,p5]
  refine kC 3 (some 9) (v:=.pointer (some ⟨gc,0,none⟩)) (fun W hX=>hX.c19) (h:=?_)
  simp only[p1,p2,p3,p4,p5]
  refine kM 4 (some 10) (.pointer (some ⟨gv,0,none⟩)) (h:=?_)
  simp only[p1,p2,p3,p4,p5]
  refine kT 5 (some 11) (.pointer (some ⟨gv,0,none⟩)) (h:=?_)
  simp only[p1,p2,p3,p4,p5]
  refine kT 6 (some 12) (.pointer (some ⟨gv,18,none⟩)) (h:=?_)
  simp only[p1,p2,p3,p4,p5]
  refine kC 7 (some 13) (v:=.int .i64 s.now) (fun W hX=>hX.c18) (h:=?_)
  simp only[p1,p2,p3,p4,p5]
  refine kF 8 (some 14) ((HCL.out).mono ?_)
  rintro e w2 ⟨v,rfl,hs,hb,_⟩
  have HS:=Lib.hid hs
  have HB:=Lib.hid hb
  clear hs
  refine⟨_,rfl,HVC.keep hb,fun hH=>?_⟩
  simp only[p1,p2,p3,p4,p5]
  refine kT 9 (some 2) (v) (h:=?_)
  simp only[p1,p2,p3,p4,p5]
  refine kE (h:=?_)
  clear hH HVC
  -- end of region L
  go_wp2_with fail
  go_ret
  rw[HLV.out]
  have hb2:=bstep (Below.refl _ w1).drew HB.out
  exact⟨_,rfl,HS.out,_,_,H1.out.keep hb2,H2.out.trans (VT.of_below hb2)⟩
theorem v_compact(h:VV w0 w m gv k N key skew s cv F)(hk:k≤60):Calls Tryz.prog 73 #[.pointer (some ⟨gv,0,none⟩)] w fun e w'=>e = .returned (valE (compS s).1)∧∃ m' cv' F',VV w0 w' m' gv (k+1) N key skew (compS s).2 cv' F'∧VT gv w m F w' m' F':=by
 have HBT:=Lib.hid (v_booted h)
 have HN:Hid ((lookS s).now=s.now):=Lib.hid (lookS_now s)
 have HD:Hid ((lookS s).d=s.d):=Lib.hid (lookS_d s)
 clear h
 obtain⟨co,hco⟩:∃ c,c=(lookS s).co:=⟨_,rfl⟩
 have HLV:Hid (compS s=match (generalizing:=false) co with
  | none=>(some (12,none),lookS s)
  | some C=>((cmpR s.d (s.d.sec.length/2) C s.now).1,lookS ⟨(cmpR s.d (s.d.sec.length/2) C s.now).2.1,s.now,some (cmpR s.d (s.d.sec.length/2) C s.now).2.2⟩)):=Lib.hid (by rw[hco];rfl)
 rw[← hco] at HBT
 have HCO:=Lib.hid hco
 clear hco
 cases co with
 | none=>
  have hb:(none:Option CacheD).isSome=false:=rfl
  rw[hb] at HBT
  clear hb
  go_enter Tryz.func73,Tryz.ntmps73
  go_wp2_with fail
  refine HBT.mono ?_
  rintro e w1 ⟨rfl,cv1,F1,h1,h2⟩
  have H1:=Lib.hid h1
  have H2:=Lib.hid h2
  clear h1 h2 HBT
  go_wp2_with fail
  go_ret
  rw[HLV.out]
  exact⟨rfl,_,_,_,H1.out.up (Nat.le_succ _),H2.out⟩
 | some C=>
  have hb:(some C:Option CacheD).isSome=true:=rfl
  rw[hb] at HBT
  clear hb
  go_enter Tryz.func73,Tryz.ntmps73
  go_wp2_with fail
  refine HBT.mono ?_
  rintro e w1 ⟨rfl,cv1,F1,h1,h2⟩
  obtain⟨_,_,c18,c19⟩:=h1.cells
  rw[HN.out] at c18
  have hco:=h1.co
  rw[← HCO.out] at hco
  rcases hco with ⟨_,_,hc⟩|⟨gc,gl,gi,bi,C',rfl,hF1,hc,hck,hlo⟩
  ·cases hc
  injection hc with hc
  subst hc
  have hrm:=h1.rm
  have hck0:=hck
  rw[HD.out] at hck hrm
  have hE:=hck.ix.len
  have HCL:=Lib.hid (c_compact s.now w1.drew m s.d gc gl gi bi (s.d.sec.length/2) (30+k) C (hck.keep (Below.refl _ _).drew) (by omega) (by omega))
  have HBD:=Lib.hid (cmpR_bd hck.lk.dk.ok.st (s.d.sec.length/2) C s.now)
  obtain⟨x,hx⟩:∃ x,x=cmpR s.d (s.d.sec.length/2) C s.now:=⟨_,rfl⟩
  rw[← hx] at HCL HBD HLV
  obtain⟨ve,hve⟩:∃ v,v=valE x.1:=⟨_,rfl⟩
  rw[← hve] at HCL
  have HVE:=Lib.hid hve
  clear hve
  have H1:=Lib.hid h1
  have H2:=Lib.hid h2
  have HF1:=Lib.hid hF1
  have HLO:=Lib.hid hlo
  clear h1 h2 HBT hck hck0 hx hF1 hlo
  go_wp2_with fail
  -- region C
  have HVC:Hid (VC gv skew m.g s.now (.pointer (some ⟨gc,0,none⟩)) w1.drew):=Lib.hid (by rw[← HN.out];exact H1.out.drew.vc)
  refine kZ (n:=10) (VC gv skew m.g s.now (.pointer (some ⟨gc,0,none⟩))) (HVC.out) (h:=fun hH=>?_)
  refine kM 0 (some 8) (.pointer (some ⟨gv,0,none⟩)) (h:=?_)
  simp only[p1,p2,p3,p4,p5]
  refine kT 1 (some 9) (.pointer (some ⟨gv,0,none⟩)) (h:=?_)
  simp only[p1,p2,p3,p4,p5]
  refine kT 2 (some 10) (.pointer (some ⟨gv,19,none⟩)) (h:=?_)
  simp only[p1,p2,p3,p4,p5]
  refine kC 3 (some 11) (v:=.pointer (some ⟨gc,0,none⟩)) (fun W hX=>hX.c19) (h:=?_)
  simp only[p1,p2,p3,p4,p5]
  refine kM 4 (some 12) (.pointer (some ⟨gv,0,none⟩)) (h:=?_)
  simp only[p1,p2,p3,p4,p5]
  refine kT 5 (some 13) (.pointer (some ⟨gv,0,none⟩)) (h:=?_)
  simp only[p1,p2,p3,p4,p5]
  refine kT 6 (some 14) (.pointer (some ⟨gv,18,none⟩)) (h:=?_)
  simp only[p1,p2,p3,p4,p5]
  refine kC 7 (some 15) (v:=.int .i64 s.now) (fun W hX=>hX.c18) (h:=?_)
  simp only[p1,p2,p3,p4,p5]
  refine kF 8 (some 16) ((HCL.out).mono ?_)
  rintro e w2 ⟨rfl,m2,hk2,ht2⟩
  have hln:x.2.1.sec.length=(lookS s).d.sec.length:=by rw[HD.out];exact HBD.out.2
  have hv2:=H1.out.drew.cache (k':=k+1) (co:=some x.2.2) (G:=[gl,bi]) (fun b hb=>by rw[HF1.out];simp at hb ⊢;rcases hb with rfl|rfl <;> simp) hk2.lk.dk (.inr ⟨gc,gl,gi,bi,_,rfl,HF1.out,rfl,by rw[HBD.out.2];exact hk2.up (by omega),HLO.out⟩) ht2 hln (by have:=HBD.out.1;omega)
  have HVC2:Hid (VC gv skew m.g s.now (.pointer (some ⟨gc,0,none⟩)) w2):=Lib.hid (by have:=hv2.1.vc;rw[ht2.g,HN.out] at this;exact this)
  rw[HN.out] at hv2
  have HLK:=Lib.hid (v_look hv2.1)
  have HV2:=Lib.hid hv2.2
  clear hk2 ht2 hv2 hln
  refine⟨_,rfl,HVC2.out,fun hH=>?_⟩
  simp only[p1,p2,p3,p4,p5]
  refine kT 9 (some 3) (ve) (h:=?_)
  simp only[p1,p2,p3,p4,p5]
  refine kE (h:=?_)
  clear hH HVC
  -- end of region C
  go_wp2_with fail
  refine HLK.mono ?_
  rintro e w3 ⟨rfl,cv3,F3,h5,h6,_⟩
  have H5:=Lib.hid h5
  have H6:=Lib.hid h6
  clear h5 h6 HLK
  go_wp2_with fail
  go_ret
  rw[HLV.out]
  exact⟨by rw[HVE.out];rfl,_,_,_,H5.out,H2.out.trans (HV2.undrew.trans H6.out)⟩
end
end
section
open Go.RowKit
def itoaS(n:Int):ByteArray:=⟨(Lib.itoa n).toArray⟩
theorem nDigits_le(u:Nat):∀ k,u<10 ^ (k+1)→Lib.nDigits u≤k+1:=by
 intro k
 induction k generalizing u with
 | zero=>intro h;unfold Lib.nDigits;rw[dif_pos (by simpa using h)];omega
 | succ k ih=>
  intro h
  unfold Lib.nDigits
  split
  ·omega
  ·have:=ih (u/10) (by rw[Nat.div_lt_iff_lt_mul (by omega)];rw[Nat.pow_succ] at h;omega)
   omega
theorem itoa_len(n:Int)(h0 : -9223372036854775808≤n)(h1:n≤9223372036854775807):(Lib.itoa n).length≤20:=by
 unfold Lib.itoa
 split
 ·have:=nDigits_le n.natAbs 18 (by omega)
  rw[← Lib.decDigits_length] at this
  simp;omega
 ·have:=nDigits_le n.toNat 18 (by omega)
  rw[← Lib.decDigits_length] at this
  omega
theorem itoaS_size(n:Int)(h0 : -9223372036854775808≤n)(h1:n≤9223372036854775807):(itoaS n).size≤20:=by
 have:=itoa_len n h0 h1
 simpa [itoaS,ByteArray.size] using this
theorem itoaS_small(n:Nat)(h:n<10):(⟨#[48,49,50,51,52,53,54,55,56,57]⟩:ByteArray).extract n (n+1)=itoaS n:=by
 have:n=0∨n=1∨n=2∨n=3∨n=4∨n=5∨n=6∨n=7∨n=8∨n=9:=by omega
 unfold itoaS
 rw[Lib.itoa_nonneg,Lib.decDigits_one h]
 rcases this with rfl|rfl|rfl|rfl|rfl|rfl|rfl|rfl|rfl|rfl <;> decide
theorem mk_append(x y:List UInt8):(ByteArray.mk x.toArray++ByteArray.mk y.toArray)=ByteArray.mk (x++y).toArray:=ByteArray.mk_append_mk x y
theorem itoaS_big(n:Nat)(h:10≤n):itoaS (n/10:Nat)++itoaS (n % 10:Nat)=itoaS n:=by
 unfold itoaS
 rw[Lib.itoa_nonneg,Lib.itoa_nonneg,Lib.itoa_nonneg,mk_append]
 conv=>rhs;rw[Lib.decDigits,dif_neg (by omega)]
 rw[Lib.decDigits_one (show n % 10<10 by omega)]
theorem dec_digit(n:Int)(w:World)(h0:0≤n)(h1:n<10):
  Calls Tryz.prog 22 #[.int .i64 n] w fun e w'=>e = .returned (.string (itoaS n))∧∃ d,w'=w.drewN d:=by
 obtain⟨k,rfl⟩:∃ k:Nat,n=k:=⟨n.toNat,by omega⟩
 have hk:k<10:=by omega
 have d1:¬((k:Int) < -9):=by omega
 have d2:¬((k:Int)<0):=by omega
 go_enter Tryz.func22,Tryz.ntmps22
 go_wp2_with fail
 go_ret
 have he:=itoaS_small k hk
 exact⟨by rw[← he];rfl,0,rfl⟩
theorem dec_nat(k:Nat):∀(n:Int) (w:World),0≤n→n≤9223372036854775807→n.toNat≤k →
  Calls Tryz.prog 22 #[.int .i64 n] w fun e w'=>e = .returned (.string (itoaS n))∧∃ d,w'=w.drewN d:=by
 induction k with
 | zero=>exact fun n w h0 _ hk=>dec_digit n w h0 (by omega)
 | succ k ih=>
  intro n w h0 h1 hk
  by_cases hd:n<10
  ·exact dec_digit n w h0 hd
  ·obtain⟨m,rfl⟩:∃ m:Nat,n=m:=⟨n.toNat,by omega⟩
   have d1:¬((m:Int) < -9):=by omega
   have d2:¬((m:Int)<0):=by omega
   have IH:=Lib.hid ih
   clear ih
   go_enter Tryz.func22,Tryz.ntmps22
   go_wp2_with fail
   have b1:=itoaS_size ((m:Int)/10) (by omega) (by omega)
   have hcall:=fun w=>IH.out ((m:Int)/10) w (by omega) (by omega) (by omega)
   have HC:=Lib.hid hcall
   clear hcall
   have r0:(0:Int)≤(m:Int) % 10:=by omega
   have r1:(m:Int) % 10+1≤10:=by omega
   have e1:IntKind.i64.wrap ((m:Int) % 10+1)=(m:Int) % 10+1:=IntWalk.i64_in _ (by omega)
   have e2:((m:Int) % 10).toNat=m % 10:=by omega
   have e3:((m:Int) % 10+1).toNat=m % 10+1:=by omega
   go_quiet ((go_at_call 22;exact Calls.quiet_of (HC.out _)))
   have hs:=itoaS_small (m % 10) (by omega)
   have hg:=itoaS_big m (by omega)
   have HS:=Lib.hid hs
   have HG:=Lib.hid hg
   clear hs hg e1 e2 e3 b1 r0 r1
   go_wp2_with fail
   go_ret
   exact⟨by rw[← HG.out,← HS.out];rfl,nq,rfl⟩
theorem dec_nonneg(n:Int)(w:World)(h0:0≤n)(h1:n≤9223372036854775807):
  Calls Tryz.prog 22 #[.int .i64 n] w fun e w'=>e = .returned (.string (itoaS n))∧∃ d,w'=w.drewN d:=dec_nat n.toNat n w h0 h1 (Nat.le_refl _)
theorem itoaS_neg(n:Nat)(h:1≤n):(⟨#[45]⟩:ByteArray)++itoaS n=itoaS (-(n:Int)):=by
 unfold itoaS
 rw[Lib.itoa_nonneg,Lib.itoa_neg n h]
 exact mk_append [45] _
theorem itoaS_negbig(n:Nat)(h:10≤n):itoaS (-((n/10:Nat):Int))++itoaS (n % 10:Nat)=itoaS (-(n:Int)):=by
 unfold itoaS
 rw[Lib.itoa_nonneg,Lib.itoa_neg n (by omega),Lib.itoa_neg (n/10) (by omega),mk_append]
 conv=>rhs;rw[Lib.decDigits,dif_neg (by omega)]
 rw[Lib.decDigits_one (show n % 10<10 by omega)]
 rfl
theorem dec_neg_digit(n:Nat)(w:World)(h0:1≤n)(h1:n≤9):
  Calls Tryz.prog 22 #[.int .i64 (-(n:Int))] w fun e w'=>e = .returned (.string (itoaS (-(n:Int))))∧∃ d,w'=w.drewN d:=by
 have d1:¬(-(n:Int) < -9):=by omega
 have d2:(-(n:Int)<0):=by omega
 have hn:=Lib.hid (itoaS_neg n h0)
 have hsz:=itoaS_size n (by omega) (by omega)
 go_enter Tryz.func22,Tryz.ntmps22
 go_wp2_with fail
 refine(dec_nonneg n w (by omega) (by omega)).mono ?_
 rintro e w1 ⟨rfl,d,rfl⟩
 go_wp2_with fail
 go_ret
 exact⟨by rw[← hn.out];rfl,d,rfl⟩
theorem dec_neg(k:Nat):∀(n:Nat) (w:World),1≤n→(n:Int)≤9223372036854775808→n≤k →
  Calls Tryz.prog 22 #[.int .i64 (-(n:Int))] w fun e w'=>e = .returned (.string (itoaS (-(n:Int))))∧∃ d,w'=w.drewN d:=by
 induction k with
 | zero=>exact fun n w h0 _ hk=>by omega
 | succ k ih=>
  intro n w h0 h1 hk
  by_cases hd:n≤9
  ·exact dec_neg_digit n w h0 hd
  ·have d1:(-(n:Int) < -9):=by omega
   have IH:=Lib.hid ih
   have hg:=Lib.hid (itoaS_negbig n (by omega))
   have hsz:=itoaS_size (-((n/10:Nat):Int)) (by omega) (by omega)
   have hsz2:=itoaS_size ((n % 10:Nat):Int) (by omega) (by omega)
   have q1:(-(n:Int)).tdiv 10 = -((n/10:Nat):Int):=by rw[Int.neg_tdiv];rfl
   have q2:(-(n:Int)).tmod 10 = -((n % 10:Nat):Int):=by rw[Int.neg_tmod];rfl
   clear ih
   have hc1:=IH.out (n/10) w (by omega) (by omega) (by omega)
   rw[show(((n/10:Nat)):Int)=(n:Int)/10 from by omega] at hc1 hsz q1
   rw[show(((n % 10:Nat)):Int)=(n:Int) % 10 from by omega] at hsz2 q2
   have HC:=Lib.hid hc1
   clear hc1
   go_enter Tryz.func22,Tryz.ntmps22
   go_wp2_with fail
   refine HC.mono ?_
   rintro e w1 ⟨rfl,d,rfl⟩
   go_wp2_with fail
   refine(dec_nonneg ((n:Int) % 10) _ (by omega) (by omega)).mono ?_
   rintro e w1 ⟨rfl,d',rfl⟩
   go_wp2_with fail
   go_ret
   refine⟨?_,d+d',rfl⟩
   rw[← hg.out]
   rfl
theorem dec_any(n:Int)(w:World)(h0 : -9223372036854775808≤n)(h1:n≤9223372036854775807):
  Calls Tryz.prog 22 #[.int .i64 n] w fun e w'=>e = .returned (.string (itoaS n))∧∃ d,w'=w.drewN d:=by
 by_cases h:0≤n
 ·exact dec_nonneg n w h h1
 ·obtain⟨m,rfl⟩:∃ m:Nat,n = -(m:Int):=⟨n.natAbs,by omega⟩
  exact dec_neg m m w (by omega) (by omega) (Nat.le_refl _)
end
end Go.Proofs.YtiaigidbcljblaaGreatDoor
