import Derived.Test.YtombncedfleljaaGreatMC36
import Derived.Test.YtombncedfleljaaGreatMC37
import Derived.Test.YtombncedfleljaaGreatMC41
set_option linter.unusedVariables false
set_option linter.unusedSimpArgs false
set_option maxRecDepth 100000
set_option maxHeartbeats 40000000
namespace Go.Proofs.YtombncedfleljaaGreat
open Go.RowKit
attribute [local irreducible] wpQuiet wpAnyH
def ppC(g:Nat)(cv:Value)(m:RM)(r:RefD)(v x:Value)(C:RCach)(now:Int):Array Value:=#[.pointer (some ⟨g,0,none⟩),cv,m.sv,m.ov,.bool r.down,.int .i64 r.steps,m.pv,.bool C.has,.bool C.L.has,.int .i64 C.L.side,.int .u32 C.L.gen,.int .u32 C.L.last,v,.bool C.L.brk,x,.int .i64 C.til,.int .i64 now]
def ppZ:Array Value:=#[.pointer none,.pointer none,.slice none 0 0,.slice none 0 0,.bool false,.int .i64 0,.slice none 0 0,.bool false,.bool false,.int .i64 0,.int .u32 0,.int .u32 0,.slice none 0 0,.bool false,.slice none 0 0,.int .i64 0,.int .i64 0]
theorem tE:∀ w,(zeroValue 65).run Tryz.prog w = .ok (.agg ppZ) w:=fun w=>by unfold ppZ;kernel_rfl
theorem ppI:(Tryz.prog.info? 65).map (·.size)=some 17:=by kernel_rfl
section
variable (g : Nat) (cv : Value) (m : RM) (r : RefD) (v x : Value) (C : RCach) (now : Int)
theorem zS:ppC g cv m r v x C now=([Value.pointer (some ⟨g,0,none⟩),cv]++(aA m r).toList++((rcC v x C).toList++[Value.int .i64 now])).toArray:=rfl
end
theorem gO{w:World}{g:Nat}{t:TypeId}{pre mid post:List Value}{n:Nat}(h:Blk w g t (pre++mid++post).toArray)(hn:pre.length=n):w.rangeAt g n mid:=fun i u hi=>by
 subst hn;have hl:=(List.getElem?_eq_some_iff.1 hi).1;have:=h.range (pre.length+i) u (by rw[jt,List.append_assoc,List.getElem?_append_right (by omega),List.getElem?_append_left (by omega)];simpa using hi)
 rwa [Nat.zero_add] at this
def CO(w0 w:World)(m:DiskM)(d:DiskD)(n:Nat)(cv:Value)(F:List Nat)(co:Option CacheD):Prop:=
 (cv = .pointer none∧F=[]∧co=none)∨(∃ gc gl gi bi C,cv = .pointer (some ⟨gc,0,none⟩)∧F=[gl,bi,gc,gi]∧co=some C∧CK w m d gc gl gi bi (d.sec.length/2) n C∧∀ b∈F,w0.heap.size≤b)
structure PP(w0 w:World)(m:DiskM)(d:DiskD)(n:Nat)(cv:Value)(F:List Nat)(co:Option CacheD)(mr:RM)(r:RefD)(v x:Value)(C:RCach):Prop where
 st:St w0 w m d
 co:CO w0 w m d n cv F co
 rv:RV w mr r v x C
 dj:∀ b,bF mr r v x b→Far m F b
section
variable {w0 w w' : World} {m m' : DiskM} {d d' : DiskD} {n n' : Nat} {cv cv' : Value} {F F' : List Nat} {co co' : Option CacheD} {mr mr' : RM} {r r' : RefD} {v v' x x' : Value} {C C' : RCach}
theorem CO.keep(h:CO w0 w m d n cv F co)(hb:Below w.heap.size w w'):CO w0 w' m d n cv F co:=
 h.imp id (fun⟨gc,gl,gi,bi,C,h1,h2,h3,h4,h5⟩=>⟨gc,gl,gi,bi,C,h1,h2,h3,h4.keep hb,h5⟩)
theorem CO.far(h:CO w0 w m d n cv F co):∀ b∈F,w0.heap.size≤b∧b<w.heap.size:=fun b hb=>by
 rcases h with ⟨_,h2,_⟩|⟨gc,gl,gi,bi,C,h1,h2,h3,h4,h5⟩
 ·rw[h2] at hb;cases hb
 ·refine⟨h5 b hb,?_⟩;rw[h2] at hb;have:=h4.ix.lt;simp at hb;rcases hb with rfl|rfl|rfl|rfl
  ·exact h4.lk.blk.lt
  ·exact this.2
  ·exact h4.blk.lt
  ·exact this.1
theorem CO.form(h:CO w0 w m d n cv F co):cv.oneCell'=true:=by
 rcases h with ⟨h1,_⟩|⟨gc,gl,gi,bi,C,h1,_⟩ <;> (rw[h1];rfl)
theorem CO.up(h:CO w0 w m d n cv F co)(hn:n≤n'):CO w0 w m d n' cv F co:=
 h.imp id (fun⟨gc,gl,gi,bi,C,h1,h2,h3,h4,h5⟩=>⟨gc,gl,gi,bi,C,h1,h2,h3,h4.up hn,h5⟩)
theorem CO.disk(h:CO w0 w m d n cv F co)(hk:DK w' m' d')(ht:DT w m w' m')(hl:d'.sec.length=d.sec.length):CO w0 w' m' d' n cv F co:=
 h.imp id (fun⟨gc,gl,gi,bi,C,h1,h2,h3,h4,h5⟩=>⟨gc,gl,gi,bi,C,h1,h2,h3,by rw[hl];exact h4.disk hk ht hl,h5⟩)
theorem PP.keep(h:PP w0 w m d n cv F co mr r v x C)(hb:Below w.heap.size w w'):PP w0 w' m d n cv F co mr r v x C:=⟨h.st.keep hb,h.co.keep hb,h.rv.keep hb,h.dj⟩
theorem PP.far_new(h:PP w0 w m d n cv F co mr r v x C){b:Nat}(hb:w.heap.size≤b):Far m F b:=⟨Apart.fresh h.st.dk hb,fun hm=>by have:=(h.co.far b hm).2;omega⟩
theorem PP.op(h:PP w0 w m d n cv F co mr r v x C)(hst:St w0 w' m' d')(ht:CT F w m w' m')(hco:CO w0 w' m' d' n' cv' F' co')(hF:∀ b,b<w.heap.size→b∈F'→b∈F):PP w0 w' m' d' n' cv' F' co' mr r v x C:=
 ⟨hst,hco,h.rv.same (fun b hb=>ht.block (h.rv.bl b hb) (h.dj b hb)) ht.fo.size,fun b hb=>⟨(ht.far (h.rv.bl b hb) (h.dj b hb)).1,fun hm=>(h.dj b hb).2 (hF b (h.rv.bl b hb) hm)⟩⟩
theorem PP.ref{k:Nat}(h:PP w0 w m d n cv F co mr r v x C)(hv:RV w' mr' r' v' x' C')(ht:RTo w w' k mr r v x mr' r' v' x'):PP w0 w' m d n cv F co mr' r' v' x' C':=
 ⟨h.st.keep ht.be,h.co.keep ht.be,hv,fun b hb=>(ht.sub b hb).elim (h.dj b) (fun h2=>h.far_new h2)⟩
theorem CK.off{gc gl gi bi hh:Nat}{Cc:CacheD}{g:Nat}(k:CK w m d gc gl gi bi hh n Cc)(ho:Off g w w')(ha:Apart m g)(h1:g≠gl)(h2:g≠bi)(h3:g≠gc)(h4:g≠gi):CK w' m d gc gl gi bi hh n Cc:=
 ⟨⟨k.lk.dk.offO ho ha,ho.blk k.lk.blk (Ne.symm h1),k.lk.ap,k.lk.ok⟩,ho.blk k.blk (Ne.symm h3),k.ix.same (ho.block gi k.ix.lt.1 (Ne.symm h4)) (ho.block bi k.ix.lt.2 (Ne.symm h2)),k.ac,k.ai,k.ab,k.ne,k.i64⟩
theorem PP.off{g:Nat}(h:PP w0 w m d n cv F co mr r v x C)(ho:Off g w w')(hf:Far m F g)(hg:w0.heap.size≤g)(hr:¬bF mr r v x g):PP w0 w' m d n cv F co mr r v x C:=by
 refine⟨⟨h.st.dk.offO ho hf.1,h.st.ft,h.st.bel.trans (ho.below hg h.st.bel.size)⟩,?_,h.rv.same (fun b hb=>ho.block b (h.rv.bl b hb) (fun e=>hr (e ▸ hb))) ho.size,h.dj⟩;refine h.co.imp id (fun⟨gc,gl,gi,bi,Cc,h1,h2,h3,h4,h5⟩=>⟨gc,gl,gi,bi,Cc,h1,h2,h3,?_,h5⟩);have hf2:=hf.2;rw[h2] at hf2;simp at hf2;exact h4.off ho hf.1 hf2.1 hf2.2.1 hf2.2.2.1 hf2.2.2.2
end
structure PX(wB:World)(mB:DiskM)(FB:List Nat)(w0 W:World)(m:DiskM)(d:DiskD)(n:Nat)(cv:Value)(F:List Nat)(co:Option CacheD)(mr:RM)(r:RefD)(v x:Value)(C:RCach)(l:List (Nat×TypeId×Array Value)):Prop where
 bx:BX w0 W (bF mr r v x) l
 pp:PP w0 W m d n cv F co mr r v x C
 far:∀ y∈l,Far m F y.1
 xb:wB.heap.size≤W.heap.size
 xl:∀ y∈l,wB.heap.size≤y.1
 xf:∀ b,b<wB.heap.size→Far mB FB b→W.heap[b]? = wB.heap[b]?∧Far m F b
section
variable {wB w0 W W2 : World} {mB m m' : DiskM} {d d' : DiskD} {n n' : Nat} {cv cv' : Value} {FB F F' : List Nat} {co co' : Option CacheD} {mr mr' : RM} {r r' : RefD} {v v' x x' : Value} {C C' : RCach} {l l1 l2 : List (Nat × TypeId × Array Value)} {g : Nat} {t : TypeId} {cs : Array Value}
theorem PX.start(h:PP w0 W m d n cv F co mr r v x C):PX W m F w0 W m d n cv F co mr r v x C []:=⟨BX.nil h.st.bel h.rv.bl,h,(fun y hy=>by cases hy),Nat.le_refl _,(fun y hy=>by cases hy),fun b _ hf=>⟨rfl,hf⟩⟩
theorem PX.keep(h:PX wB mB FB w0 W m d n cv F co mr r v x C l)(hb:Below W.heap.size W W2):PX wB mB FB w0 W2 m d n cv F co mr r v x C l:=⟨h.bx.keep hb,h.pp.keep hb,h.far,Nat.le_trans h.xb hb.size,h.xl,fun b h1 h2=>⟨(hb.block b (Nat.lt_of_lt_of_le h1 h.xb)).trans (h.xf b h1 h2).1,(h.xf b h1 h2).2⟩⟩
theorem PX.new(h:PX wB mB FB w0 W m d n cv F co mr r v x C l)(t:TypeId)(cs:Array Value)(g:Nat)(hg:W.heap.size=g):PX wB mB FB w0 (W.alloc (.cells cs t)) m d n cv F co mr r v x C ((g,t,cs) :: l):=by
 subst hg;have k:=h.keep (aN W (.cells cs t));exact⟨h.bx.new t cs,k.pp,fun y hy=>(List.mem_cons.1 hy).elim (fun e=>by rw[e];exact h.pp.far_new (Nat.le_refl _)) (h.far y),k.xb,fun y hy=>(List.mem_cons.1 hy).elim (fun e=>by rw[e];exact h.xb) (h.xl y),k.xf⟩
theorem PX.put(h:PX wB mB FB w0 W m d n cv F co mr r v x C (l1++(g,t,cs) :: l2))(cs2:Array Value)(hB:Blk W2 g t cs2)(ho:Off g W W2):PX wB mB FB w0 W2 m d n cv F co mr r v x C (l1++(g,t,cs2) :: l2):=by
 have hm:(g,t,cs)∈l1++(g,t,cs) :: l2:=by simp
 have hmem:∀(Q:Nat→Prop),(∀ y∈l1++(g,t,cs) :: l2,Q y.1)→∀ y∈l1++(g,t,cs2) :: l2,Q y.1:=fun Q hQ y hy=>by
  rcases List.mem_append.1 hy with h1|h1
  ·exact hQ y (List.mem_append.2 (.inl h1))
  ·rcases List.mem_cons.1 h1 with rfl|h2
   ·exact hQ (g,t,cs) hm
   ·exact hQ y (List.mem_append.2 (.inr (List.mem_cons_of_mem _ h2)))
 have hxl:=h.xl _ hm;exact⟨h.bx.put cs2 hB ho,h.pp.off ho (h.far _ hm) (h.bx.lo _ hm) (fun hr=>(h.bx.r g hr).1 _ hm rfl),hmem (Far m F) h.far,Nat.le_trans h.xb ho.size,hmem (fun b=>wB.heap.size≤b) h.xl,fun b h1 h2=>⟨(ho.block b (Nat.lt_of_lt_of_le h1 h.xb) (fun e=>by have:wB.heap.size≤g:=hxl;omega)).trans (h.xf b h1 h2).1,(h.xf b h1 h2).2⟩⟩
theorem PX.all(h:PX wB mB FB w0 W m d n cv F co mr r v x C (l1++(g,t,cs) :: l2))(new:List Value)(hl:cs.size=new.length):PX wB mB FB w0 (W.setCells g 0 new) m d n cv F co mr r v x C (l1++(g,t,new.toArray) :: l2):=
 h.put _ (Blk.setAll new (h.bx.b (g,t,cs) (by simp)) hl) (dA g new 0 W)
theorem PX.cell(h:PX wB mB FB w0 W m d n cv F co mr r v x C (l1++(g,t,cs) :: l2))(i:Nat)(u:Value):PX wB mB FB w0 (W.setCell ⟨g,i,none⟩ u) m d n cv F co mr r v x C (l1++(g,t,cs.setIfInBounds i u) :: l2):=
 h.put _ ((h.bx.b (g,t,cs) (by simp)).set_ i u) ((Off.refl g W).set i u)
theorem PX.op(h:PX wB mB FB w0 W m d n cv F co mr r v x C l)(hst:St w0 W2 m' d')(ht:CT F W m W2 m')(hco:CO w0 W2 m' d' n' cv' F' co')(hF:∀ b,b<W.heap.size→b∈F'→b∈F):PX wB mB FB w0 W2 m' d' n' cv' F' co' mr r v x C l:=
 have hf:∀ b,b<W.heap.size→Far m F b→Far m' F' b:=fun b hb hf=>⟨(ht.far hb hf).1,fun hm=>hf.2 (hF b hb hm)⟩
 ⟨⟨fun y hy=>(ht.block (h.bx.lt y hy) (h.far y hy)).trans (h.bx.b y hy),h.bx.nd,h.bx.lo,hst.bel,fun b hb=>⟨(h.bx.r b hb).1,Nat.lt_of_lt_of_le (h.bx.r b hb).2 ht.fo.size⟩⟩,h.pp.op hst ht hco hF,fun y hy=>hf y.1 (h.bx.lt y hy) (h.far y hy),Nat.le_trans h.xb ht.fo.size,h.xl,fun b h1 h2=>⟨(ht.block (Nat.lt_of_lt_of_le h1 h.xb) (h.xf b h1 h2).2).trans (h.xf b h1 h2).1,hf b (Nat.lt_of_lt_of_le h1 h.xb) (h.xf b h1 h2).2⟩⟩
theorem PX.ref{k:Nat}(h:PX wB mB FB w0 W m d n cv F co mr r v x C l)(hv:RV W2 mr' r' v' x' C')(ht:RTo W W2 k mr r v x mr' r' v' x'):PX wB mB FB w0 W2 m d n cv F co mr' r' v' x' C' l:=
 ⟨(h.bx.keep ht.be).rows (W2:=W) (fun b hb=>(ht.sub b hb).imp id (fun h2=>⟨h2,hv.bl b hb⟩)) h.bx.lt,h.pp.ref hv ht,h.far,Nat.le_trans h.xb ht.be.size,h.xl,fun b h1 h2=>⟨(ht.be.block b (Nat.lt_of_lt_of_le h1 h.xb)).trans (h.xf b h1 h2).1,(h.xf b h1 h2).2⟩⟩
theorem PX.row(h:PX wB mB FB w0 W m d n cv F co mr r v x C l)(y:Nat×TypeId×Array Value)(hy:y∈l):W.rangeAt y.1 0 y.2.2.toList:=(h.bx.b y hy).range
theorem PX.cellc(h:PX wB mB FB w0 W m d n cv F co mr r v x C l){g:Nat}{t:TypeId}{cs:Array Value}(hy:(g,t,cs)∈l)(i:Nat){u:Value}(hu:cs[i]? = some u):W.cell? ⟨g,i,none⟩=some u:=((h.bx.b (g,t,cs) hy).cell i).trans hu
end
theorem lU{w0 w:World}{m:DiskM}{d:DiskD}{n:Nat}{cv:Value}{F:List Nat}{co:Option CacheD}{mr:RM}{r:RefD}{v x:Value}{C:RCach}(h:PP w0 w m d n cv F co mr r v x C)(now:Int):∀ u∈(ppC m.g cv mr r v x C now).toList,u.oneCell'=true:=fun u hu=>by
 rw[zS,jt] at hu;simp only[List.mem_append,List.mem_cons,List.not_mem_nil,or_false] at hu;rcases hu with ((rfl|rfl)|h1)|h1|rfl
 ·rfl
 ·exact h.co.form
 ·exact dF h.rv.rk u h1
 ·exact eH h.rv u h1
 ·rfl
end Go.Proofs.YtombncedfleljaaGreat
