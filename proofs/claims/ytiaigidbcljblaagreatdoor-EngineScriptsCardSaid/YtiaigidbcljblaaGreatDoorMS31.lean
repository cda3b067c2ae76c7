import Derived.Test.YtiaigidbcljblaaGreatDoorMS27
import Derived.Test.YtiaigidbcljblaaGreatDoorMS28
import Derived.Test.YtiaigidbcljblaaGreatDoorMS29
set_option linter.unusedVariables false
set_option linter.unusedSimpArgs false
set_option maxRecDepth 100000
set_option maxHeartbeats 40000000
namespace Go.Proofs.YtiaigidbcljblaaGreatDoor
open Go.Proofs.Tryz
section
open Go.RowKit
attribute [local irreducible] wpQuiet wpAnyH
theorem SH{P:Program}{f:FuncId}{args:Wa}{w:Wd}{R:Ending->Wd->Prop}(h:Calls P f args w R):∃ e w',R e w':=by
 obtain⟨e,w',_,h1,_⟩:=h [];exact⟨e,w',h1⟩
section
variable {w0 w w' : Wd} {m m' : DiskM} {d d' : DiskD} {n n' : Nat} {cv : Value} {F : List Nat} {co : Option CacheD}
theorem V9{d:DiskD}(h:d.steps<=d.room)(j:Nat)(C:CacheD)(q:cL)(now:Int)(x:(gL d j C now).2.1.steps<=(gL d j C now).2.1.room):(pE d j C q now).2.1.room<=d.room+2*C.E.length+7/\(pE d j C q now).2.1.sec.length=d.sec.length:=by
 have ht:∀(d:DiskD) (C:CacheD),d.steps<=d.room->(xU d j C q).2.1.room<=d.room+3/\(xU d j C q).2.1.sec.length=d.sec.length:=λd C h=>by
  have h1:=VY h j C.L q;have x:=RY d j C.L q;unfold xU;split
  ·exact⟨by show d.room<=_;omega,rfl⟩
  ·split
   ·exact⟨h1,x⟩
   ·exact⟨h1,x⟩
 have I:=CI h j C now;unfold pE;split
 ·exact⟨by show d.room<=_;omega,rfl⟩
 split
 ·exact⟨by show d.room<=_;omega,rfl⟩
 split
 ·exact⟨by show d.room<=_;omega,rfl⟩
 split
 ·exact⟨by show d.room<=_;omega,rfl⟩
 split
 ·split
  ·exact⟨by show(gL d j C now).2.1.room<=_;omega,I.2⟩
  ·have D:=ht _ (gL d j C now).2.2 x;exact⟨by omega,D.2.trans I.2⟩
 ·have D:=ht d C h;exact⟨by omega,D.2⟩
theorem WB{gc gl gi bi h n:Nat}{C:CacheD}(D:CK w m d gc gl gi bi h n C)(j:n<=1000)(x:d.room+30000<=100000)(now:Int):DOk (gL d h C now).2.1:=by
 obtain⟨e,w',_,m',h1,_⟩:=SH (sJ now w m d gc gl gi bi h n C D j x);exact h1.lk.dk.ok
def CO(w0 w:Wd)(m:DiskM)(d:DiskD)(n:Nat)(cv:Value)(F:List Nat)(co:Option CacheD):Prop:=
 (cv = .pointer none/\F=[]/\co=none)\/(∃ gc gl gi bi C,cv = .pointer (some ⟨gc,0,none⟩)/\F=[gl,bi,gc,gi]/\co=some C/\CK w m d gc gl gi bi (d.sec.length/2) n C/\∀ b∈F,w0.heap.size<=b)
theorem CO.keep(h:CO w0 w m d n cv F co)(hb:Bw w w'):CO w0 w' m d n cv F co:=
 h.imp id (λ⟨gc,gl,gi,bi,C,h1,j,x,D,I⟩=>⟨gc,gl,gi,bi,C,h1,j,x,D.keep hb,I⟩)
theorem CO.far(h:CO w0 w m d n cv F co):∀ b∈F,w0.heap.size<=b/\b<w.heap.size:=λb hb=>by
 rcases h with ⟨_,j,_⟩|⟨gc,gl,gi,bi,C,h1,j,I,x,D⟩
 ·rw[j] at hb;cases hb
 ·refine⟨D b hb,?_⟩;rw[j] at hb;have:=x.ix.lt;simp at hb;rcases hb with rfl|rfl|rfl|rfl
  ·exact x.lk.blk.lt
  ·exact this.2
  ·exact x.blk.lt
  ·exact this.1
theorem CO.form(h:CO w0 w m d n cv F co):cv.oneCell'=true:=by
 rcases h with ⟨h1,_⟩|⟨gc,gl,gi,bi,C,h1,_⟩ <;> (rw[h1];rfl)
theorem CO.up(h:CO w0 w m d n cv F co)(J:n<=n'):CO w0 w m d n' cv F co:=
 h.imp id (λ⟨gc,gl,gi,bi,C,h1,j,x,D,I⟩=>⟨gc,gl,gi,bi,C,h1,j,x,D.up J,I⟩)
theorem CO.disk(h:CO w0 w m d n cv F co)(K:DK w' m' d')(ht:DT w m w' m')(j:d'.sec.length=d.sec.length):CO w0 w' m' d' n cv F co:=
 h.imp id (λ⟨gc,gl,gi,bi,C,h1,x,D,I,J⟩=>⟨gc,gl,gi,bi,C,h1,x,D,by rw[j];exact I.disk K ht j,J⟩)
theorem CK.off{gc gl gi bi x:Nat}{Cc:CacheD}{g:Nat}(k:CK w m d gc gl gi bi x n Cc)(j:Off g w w')(ha:Apart m g)(h1:g≠gl)(D:g≠bi)(I:g≠gc)(J:g≠gi):CK w' m d gc gl gi bi x n Cc:=
 ⟨⟨k.lk.dk.offO j ha,j.blk k.lk.blk (Ne.symm h1),k.lk.ap,k.lk.ok⟩,j.blk k.blk (Ne.symm I),k.ix.same (j.block gi k.ix.lt.1 (Ne.symm J)) (j.block bi k.ix.lt.2 (Ne.symm D)),k.ac,k.ai,k.ab,k.ne,k.i64⟩
end
end
section
open Go.RowKit
attribute [local irreducible] wpQuiet wpAnyH
structure VS where
 d:DiskD
 now:Int
 co:Option CacheD
def yZ(key:Nat->Nat)(skew:Int)(g:Nat)(now:Int)(cv:Value):Wa:=(arr 16 (c8 key)++[.int .i64 skew,.pointer (some ⟨g,0,none⟩),.int .i64 now,cv]).toArray
structure VV(w0 w:Wd)(m:DiskM)(gv k N:Nat)(key:Nat->Nat)(skew:Int)(s:VS)(cv:Value)(F:List Nat):Prop where
 st:St w0 w m s.d
 blk:Blk w gv 154 (yZ key skew m.g s.now cv)
 co:CO w0 w m s.d (30+k) cv F s.co
 far:Far m F gv
 lo:w0.heap.size<=gv
 now:0<=s.now/\s.now<=1099511627776
 skew:1<=skew/\skew<=1073741824
 len:s.d.sec.length=N
 few:N<=30
 rm:s.d.room<=200*k
structure VT(gv:Nat)(w:Wd)(m:DiskM)(F:List Nat)(w':Wd)(m':DiskM)(F':List Nat):Prop where
 ct:CT (gv :: F) w m w' m'
 fs:∀ b∈F',b∈F\/w.heap.size<=b
section
variable {w0 w w' w'' : Wd} {m m' m'' : DiskM} {gv k k' N : Nat} {key : Nat -> Nat} {skew : Int} {s s' : VS} {cv cv' : Value} {F F' F'' : List Nat}
theorem uR(key:Nat->Nat)(skew:Int)(g:Nat)(now:Int)(cv:Value)(j:Nat):(yZ key skew g now cv)[16+j]? = [Value.int .i64 skew,.pointer (some ⟨g,0,none⟩),.int .i64 now,cv][j]?:=by
 unfold yZ;rw[jf,jx (by rw[aB];omega),aB,Nat.add_sub_cancel_left]
theorem FQ(key:Nat->Nat)(skew:Int)(g:Nat)(now:Int)(cv:Value)(j:Nat)(v:Value):(yZ key skew g now cv).setIfInBounds (16+j) v=(arr 16 (c8 key)++[Value.int .i64 skew,.pointer (some ⟨g,0,none⟩),.int .i64 now,cv].set j v).toArray:=by
 unfold yZ;rw[List.setIfInBounds_toArray,List.set_append,jQ (by rw[aB];omega),aB,Nat.add_sub_cancel_left]
theorem VV.cells(h:VV w0 w m gv k N key skew s cv F):w.cell? ⟨gv,16,none⟩=some (.int .i64 skew)/\w.cell? ⟨gv,17,none⟩=some (.pointer (some ⟨m.g,0,none⟩))/\w.cell? ⟨gv,18,none⟩=some (.int .i64 s.now)/\w.cell? ⟨gv,19,none⟩=some cv:=
 ⟨(h.blk.cell 16).trans (uR _ _ _ _ _ 0),(h.blk.cell 17).trans (uR _ _ _ _ _ 1),(h.blk.cell 18).trans (uR _ _ _ _ _ 2),(h.blk.cell 19).trans (uR _ _ _ _ _ 3)⟩
structure VC(gv:Nat)(skew:Int)(g:Nat)(now:Int)(cv:Value)(W:Wd):Prop where
 c16:W.cell? ⟨gv,16,none⟩=some (.int .i64 skew)
 c17:W.cell? ⟨gv,17,none⟩=some (.pointer (some ⟨g,0,none⟩))
 c18:W.cell? ⟨gv,18,none⟩=some (.int .i64 now)
 c19:W.cell? ⟨gv,19,none⟩=some cv
theorem VV.vc(h:VV w0 w m gv k N key skew s cv F):VC gv skew m.g s.now cv w:=⟨h.cells.1,h.cells.2.1,h.cells.2.2.1,h.cells.2.2.2⟩
theorem VC.keep{g:Nat}{now:Int}(h:VC gv skew g now cv w)(hb:Bw w w'):VC gv skew g now cv w':=⟨j9 hb h.c16,j9 hb h.c17,j9 hb h.c18,j9 hb h.c19⟩
theorem VV.krange(h:VV w0 w m gv k N key skew s cv F):w.rangeAt gv 0 (arr 16 (c8 key)):=λj u x=>by
 have D:j<16:=by
  have:=(List.getElem?_eq_some_iff.1 x).1
  rwa [aB] at this
 have h1:=h.blk.cell j;rw[Nat.zero_add,h1];unfold yZ;rw[jf,jy (by rw[aB];exact D),x]
theorem VV.keep(h:VV w0 w m gv k N key skew s cv F)(hb:Bw w w'):VV w0 w' m gv k N key skew s cv F:=
 ⟨h.st.keep hb,h.blk.keep hb,h.co.keep hb,h.far,h.lo,h.now,h.skew,h.len,h.few,h.rm⟩
theorem VV.drew(h:VV w0 w m gv k N key skew s cv F):VV w0 w.drew m gv k N key skew s cv F:=h.keep (ji _ _).drew
theorem VV.up(h:VV w0 w m gv k N key skew s cv F)(j:k<=k'):VV w0 w m gv k' N key skew s cv F:=
 ⟨h.st,h.blk,h.co.up (by omega),h.far,h.lo,h.now,h.skew,h.len,h.few,by have:=h.rm;omega⟩
theorem VT.refl:VT gv w m F w m F:=⟨CT.of_below (ji _ _),λ_ h=>.inl h⟩
theorem VT.of_below(hb:Bw w w'):VT gv w m F w' m F:=⟨CT.of_below hb,λ_ h=>.inl h⟩
theorem VT.trans(h:VT gv w m F w' m' F')(k:VT gv w' m' F' w'' m'' F''):VT gv w m F w'' m'' F'':=
 ⟨⟨k.ct.g.trans h.ct.g,h.ct.fo.trans k.ct.fo (λx j=>by
  rcases List.mem_append.1 j with h1|h1
  ·rcases List.mem_cons.1 h1 with D|D
   ·exact .inl (List.mem_append.2 (.inl (List.mem_cons.2 (.inl D))))
   ·exact(h.fs x D).imp (λh=>List.mem_append.2 (.inl (List.mem_cons.2 (.inr h)))) id
  ·exact(h.ct.sub x h1).imp (λh=>List.mem_append.2 (.inr h)) id),λx j=>by
  rcases k.ct.sub x j with h1|h1
  ·exact h.ct.sub x h1
  ·exact .inr (jm h.ct.fo.size h1),λx v j=>by
  rcases k.ct.cv x v j with h1|h1
  ·exact h.ct.cv x v h1
  ·exact .inr (λb e=>jm h.ct.fo.size (h1 b e))⟩,λb hb=>by
  rcases k.fs b hb with h1|h1
  ·exact h.fs b h1
  ·exact .inr (jm h.ct.fo.size h1)⟩
theorem VT.undrew(h:VT gv w.drew m F w' m' F'):VT gv w m F w' m' F':=(VT.of_below (ji _ _).drew).trans h
theorem VV.put(h:VV w0 w m gv k N key skew s cv F){now:Int}{cv':Value}{F':List Nat}{co:Option CacheD}{u:Value}(j:Nat)(O:[Value.int .i64 skew,.pointer (some ⟨m.g,0,none⟩),.int .i64 s.now,cv].set j u=[Value.int .i64 skew,.pointer (some ⟨m.g,0,none⟩),.int .i64 now,cv'])
  (I:CO w0 (w.setCell ⟨gv,16+j,none⟩ u) m s.d (30+k) cv' F' co) (D:∀ b∈F',b∈F) (K:0<=now/\now<=1099511627776):
  VV w0 (w.setCell ⟨gv,16+j,none⟩ u) m gv k N key skew ⟨s.d,now,co⟩ cv' F'/\VT gv w m F (w.setCell ⟨gv,16+j,none⟩ u) m F':=by
 have x:Off gv w (w.setCell ⟨gv,16+j,none⟩ u):=(Off.refl gv w).set _ _;have hb:=h.blk.set_ (16+j) u;rw[FQ,O] at hb;exact⟨⟨⟨h.st.dk.offO x h.far.1,h.st.ft,h.st.bel.trans (x.below h.lo h.st.bel.size)⟩,hb,I,⟨h.far.1,λJ=>h.far.2 (D _ J)⟩,h.lo,K,h.skew,h.len,h.few,h.rm⟩,⟨CT.of_off x (List.mem_cons_self ..),λb hb=>.inl (D b hb)⟩⟩
theorem CO.off{co:Option CacheD}{n g:Nat}{d:DiskD}(h:CO w0 w m d n cv F co)(O:Off g w w')(D:Far m F g):CO w0 w' m d n cv F co:=by
 refine h.imp id (λ⟨gc,gl,gi,bi,Cc,h1,x,I,J,K⟩=>⟨gc,gl,gi,bi,Cc,h1,x,I,?_,K⟩);have j:=D.2;rw[x] at j;simp at j;exact J.off O D.1 j.1 j.2.1 j.2.2.1 j.2.2.2
theorem VV.drop(h:VV w0 w m gv k N key skew s cv F):VV w0 (w.setCell ⟨gv,19,none⟩ (.pointer none)) m gv k N key skew ⟨s.d,s.now,none⟩ (.pointer none) []/\VT gv w m F (w.setCell ⟨gv,19,none⟩ (.pointer none)) m []:=
 h.put 3 rfl (.inl ⟨rfl,rfl,rfl⟩) (λ_ h=>by cases h) h.now
theorem VV.clock(h:VV w0 w m gv k N key skew s cv F)(t:Int)(ht:0<=t/\t<=1099511627776):VV w0 (w.setCell ⟨gv,18,none⟩ (.int .i64 t)) m gv k N key skew ⟨s.d,t,s.co⟩ cv F/\VT gv w m F (w.setCell ⟨gv,18,none⟩ (.int .i64 t)) m F:=
 h.put 2 rfl (h.co.off ((Off.refl gv w).set _ _) h.far) (λ_ h=>h) ht
theorem VV.disk{d':DiskD}(h:VV w0 w m gv k N key skew s cv F)(x:DK w' m' d')(ht:DT w m w' m')(D:d'.sec.length=s.d.sec.length)(J:d'.room<=200*k')(I:k<=k'):VV w0 w' m' gv k' N key skew ⟨d',s.now,s.co⟩ cv F/\VT gv w m F w' m' F:=by
 have j:CT F w m w' m':=CT.of_dt ht;refine⟨⟨h.st.next x ht,?_,(h.co.disk x ht D).up (by omega),j.far h.blk.lt h.far,h.lo,h.now,h.skew,D.trans h.len,h.few,J⟩,⟨CT.of_dt ht,λ_ h=>.inl h⟩⟩;rw[ht.g];exact h.blk.ct j h.far
theorem VV.cache{d':DiskD}{co:Option CacheD}(h:VV w0 w m gv k N key skew s cv F){G:List Nat}(J:∀ b∈G,b∈F)(K:DK w' m' d')(D:CO w0 w' m' d' (30+k') cv F co)(ht:CT G w m w' m')(O:d'.sec.length=s.d.sec.length)(R:d'.room<=200*k'):VV w0 w' m' gv k' N key skew ⟨d',s.now,co⟩ cv F/\VT gv w m F w' m' F:=by
 have j:CT F w m w' m':=ht.wide (λx I=>.inl (J x I));refine⟨⟨h.st.ct K j (λb hb=>(h.co.far b hb).1),?_,D,j.far h.blk.lt h.far,h.lo,h.now,h.skew,O.trans h.len,h.few,R⟩,⟨j.wide (λx I=>.inl (List.mem_cons.2 (.inr I))),λ_ h=>.inl h⟩⟩;rw[ht.g];exact h.blk.ct j h.far
theorem VV.far_new(h:VV w0 w m gv k N key skew s cv F){b:Nat}(hb:w.heap.size<=b):Far m (gv :: F) b:=
 ⟨Apart.fresh h.st.dk hb,λj=>by
  rcases List.mem_cons.1 j with h1|h1
  ·have:=h.blk.lt;omega
  ·have:=(h.co.far b h1).2;omega⟩
theorem VT.far(h:VT gv w m F w' m' F'){b:Nat}(hb:b<w.heap.size)(x:Far m (gv :: F) b):Far m' (gv :: F') b:=
 ⟨(h.ct.far hb x).1,λD=>x.2 (by
  rcases List.mem_cons.1 D with h1|h1
  ·exact List.mem_cons.2 (.inl h1)
  ·rcases h.fs b h1 with j|j
   ·exact List.mem_cons.2 (.inr j)
   ·omega)⟩
end
def VE(w0 w:Wd)(gv g9 k N:Nat)(key:Nat->Nat)(skew:Int)(s:VS)(X:Nat->Prop):Prop:=∃ m cv F,m.g=g9/\VV w0 w m gv k N key skew s cv F/\∀ b,X b->Far m (gv :: F) b/\b<w.heap.size
structure XT(X:Nat->Prop)(w w':Wd):Prop where
 size:w.heap.size<=w'.heap.size
 block:∀ b,X b->w'.heap[b]? = w.heap[b]?
section
variable {w0 w w' w'' : Wd} {gv g9 k k' N : Nat} {key : Nat -> Nat} {skew : Int} {s s' : VS} {X Y : Nat -> Prop}
theorem XT.trans(h:XT X w w')(j:XT X w' w''):XT X w w'':=⟨jm h.size j.size,λb hb=>(j.block b hb).trans (h.block b hb)⟩
theorem XT.refl:XT X w w:=⟨ja _,λ_ _=>rfl⟩
theorem XT.of_below(j:∀ b,X b->b<w.heap.size)(hb:Bw w w'):XT X w w':=⟨hb.size,λb h=>hb.block b (j b h)⟩
theorem VE.lt(h:VE w0 w gv g9 k N key skew s X):∀ b,X b->b<w.heap.size:=by
 obtain⟨m,cv,F,_,_,j⟩:=h;exact λb hb=>(j b hb).2
theorem VE.keep(h:VE w0 w gv g9 k N key skew s X)(hb:Bw w w'):VE w0 w' gv g9 k N key skew s X:=by
 obtain⟨m,cv,F,hg,x,j⟩:=h;exact⟨m,cv,F,hg,x.keep hb,λb h=>⟨(j b h).1,jp (j b h).2 hb.size⟩⟩
theorem VE.add(h:VE w0 w gv g9 k N key skew s X)(hb:Bw w w')(D:∀ b,Y b->X b\/(w.heap.size<=b/\b<w'.heap.size)):VE w0 w' gv g9 k N key skew s Y:=by
 obtain⟨m,cv,F,hg,j,x⟩:=h;refine⟨m,cv,F,hg,j.keep hb,λb h=>?_⟩;rcases D b h with h1|h1
 ·exact⟨(x b h1).1,jp (x b h1).2 hb.size⟩
 ·exact⟨j.far_new h1.1,h1.2⟩
theorem VE.less(h:VE w0 w gv g9 k N key skew s X)(j:∀ b,Y b->X b):VE w0 w gv g9 k N key skew s Y:=by
 obtain⟨m,cv,F,hg,x,D⟩:=h;exact⟨m,cv,F,hg,x,λb h=>D b (j b h)⟩
theorem VE.up(h:VE w0 w gv g9 k N key skew s X)(j:k<=k'):VE w0 w gv g9 k' N key skew s X:=by
 obtain⟨m,cv,F,hg,x,D⟩:=h;exact⟨m,cv,F,hg,x.up j,D⟩
theorem VE.bel(h:VE w0 w gv g9 k N key skew s X):Bw w0 w:=by
 obtain⟨m,cv,F,hg,j,x⟩:=h;exact j.st.bel
theorem VE.of{m m':DiskM}{cv':Value}{F F':List Nat}(j:∀ b,X b->Far m (gv :: F) b/\b<w.heap.size)(hg:m.g=g9)(x:VV w0 w' m' gv k N key skew s cv' F')(ht:VT gv w m F w' m' F'):VE w0 w' gv g9 k N key skew s X/\XT X w w':=
 ⟨⟨m',cv',F',ht.ct.g.trans hg,x,λb h=>⟨ht.far (j b h).2 (j b h).1,jp (j b h).2 ht.ct.fo.size⟩⟩,⟨ht.ct.fo.size,λb h=>ht.ct.block (j b h).2 (j b h).1⟩⟩
end
end
section
open Go.RowKit
attribute [local irreducible] wpQuiet wpAnyH
def aN(s:VS):VS:=if s.d.down then ⟨s.d,s.now,none⟩ else s
def tG(now n:Int):Int:=if 1099511627776-now<n then 1099511627776 else if 0<n then now+n else now
def tH(s:VS)(n:Int):VS:=⟨s.d,tG s.now n,(aN s).co⟩
theorem kG(s:VS):(aN s).now=s.now:=by unfold aN;split <;> rfl
theorem LN(s:VS):(aN s).d=s.d:=by unfold aN;split <;> rfl
theorem qA(s:VS):aN (aN s)=aN s:=by
 unfold aN;split <;> rfl
theorem SI{now n:Int}(h:0<=now/\now<=1099511627776):0<=tG now n/\tG now n<=1099511627776:=by unfold tG;split <;> (try split) <;> omega
section
variable {w0 w : Wd} {m : DiskM} {gv k N : Nat} {key : Nat -> Nat} {skew : Int} {s : VS} {cv : Value} {F : List Nat} {d : DiskD}
theorem OB(h:DK w m d):Wc 118 #[.pointer (some ⟨m.g,0,none⟩)] w λe w'=>e = .returned (.bool d.down)/\w'=w:=by
 have j:=h.blk.cell 3;simp only[eG,jf,jh,jg] at j;clear h;go_enter func118,ntmps118
 go_wp2_with fail
 go_ret;exact⟨rfl,rfl⟩
def Z3(w0 w:Wd)(m:DiskM)(gv k N:Nat)(key:Nat->Nat)(skew:Int)(s:VS)(cv:Value)(F:List Nat)(w':Wd):Prop:=∃ cv' F',VV w0 w' m gv k N key skew s cv' F'/\VT gv w m F w' m F'/\(∀ b∈F',b∈F)/\(w'=w\/w'=w.setCell ⟨gv,19,none⟩ (.pointer none))
theorem x9(h:VV w0 w m gv k N key skew s cv F):Wc 77 #[.pointer (some ⟨gv,0,none⟩)] w λe w'=>e = .returned (.tuple #[])/\Z3 w0 w m gv k N key skew (aN s) cv F w':=by
 obtain⟨c16,c17,c18,c19⟩:=h.cells;have D:=h.blk.frozen 19;have j:=jz (OB h.st.dk);have H:=jz h;clear h;rcases jb s.d.down with t|t
 ·have x:Hid (aN s=⟨s.d,s.now,none⟩):=jz (jP t);rw[t] at j;clear t;go_enter func77,ntmps77
  go_wp2_with (go_at_call 118;refine j.mono ?_;rintro e I ⟨rfl,rfl⟩)
  refine bodyPost_end (results_none rfl _ _ _) rfl ⟨rfl,?_⟩;rw[x.out];exact⟨_,_,H.out.drop.1,H.out.drop.2,(λ_ h=>by cases h),.inr rfl⟩
 ·have x:Hid (aN s=s):=jz (jQ (by rw[t];decide));rw[t] at j;clear t;go_enter func77,ntmps77
  go_wp2_with (go_at_call 118;refine j.mono ?_;rintro e I ⟨rfl,rfl⟩)
  refine bodyPost_end (results_none rfl _ _ _) rfl ⟨rfl,?_⟩;rw[x.out];exact⟨_,_,H,VT.refl,(λ_ h=>h),.inl rfl⟩
theorem Z4(h:VV w0 w m gv k N key skew s cv F):Wc 47 #[.pointer (some ⟨gv,0,none⟩)] w λe w'=>e = .returned (.int .i64 s.now)/\∃ cv' F',VV w0 w' m gv k N key skew (aN s) cv' F'/\VT gv w m F w' m F':=by
 have j:=jz (x9 h);have J:Hid ((aN s).now=s.now):=jz (kG s);clear h;go_enter func47,ntmps47
 go_wp2_with fail
 refine j.mono ?_;rintro e R ⟨rfl,K,O,h1,x,_⟩;obtain⟨_,_,c18,_⟩:=h1.cells;rw[J.out] at c18;have D:=jz h1;have I:=jz x;clear h1 x j;go_wp2_with fail
 go_ret;exact⟨rfl,_,_,D,I⟩
theorem yA(h:VV w0 w m gv k N key skew s cv F):Wc 78 #[.pointer (some ⟨gv,0,none⟩)] w λe w'=>e = .returned (.bool (aN s).co.isSome)/\∃ cv' F',VV w0 w' m gv k N key skew (aN s) cv' F'/\VT gv w m F w' m F':=by
 have D:=jz (x9 h);clear h;obtain⟨b,hb⟩:=je ((aN s).co.isSome);rw[<- hb];have O:=jz hb;clear hb;go_enter func78,ntmps78
 go_wp2_with fail
 refine D.mono ?_;rintro e Z ⟨rfl,U,V,h1,I,_⟩;obtain⟨_,_,_,c19⟩:=h1.cells;have x:=h1.co;have J:=jz h1;have K:=jz I;clear h1 I D;rcases x with ⟨rfl,_,j⟩|⟨gc,gl,gi,bi,C,rfl,_,j,_⟩
 all_goals
  have R:=jz j;clear j;go_wp2_with fail
  go_ret;exact⟨by rw[O.out,R.out];rfl,_,_,J,K⟩
theorem YR(n:Int)(hn:aE n)(h:VV w0 w m gv k N key skew s cv F):Wc 68 #[.pointer (some ⟨gv,0,none⟩),.int .i64 n] w λe w'=>e = .returned (.int .i64 (tG s.now n))/\∃ cv' F',VV w0 w' m gv k N key skew (tH s n) cv' F'/\VT gv w m F w' m F':=by
 have K:=jz (x9 h);have V:Hid ((aN s).now=s.now):=jz (kG s);have I:Hid ((aN s).d=s.d):=jz (LN s);have hb:=h.now;have HB:=jz (SI (n:=n) h.now);unfold aE at hn;clear h;have t1:=Int.lt_or_le (1099511627776-s.now) n;obtain⟨t,ht⟩:∃ t,s.now=t:=⟨_,rfl⟩;rw[ht] at hb t1 V HB ⊢;have x:Hid (tG t n=if 1099511627776-t<n then 1099511627776 else if 0<n then t+n else t):=jz rfl;have J:Hid (tH s n=⟨s.d,tG t n,(aN s).co⟩):=jz (by unfold tH;rw[ht]);clear ht;rcases t1 with t1|t1
 ·rw[jP t1] at x;go_enter func68,ntmps68
  go_wp2_with fail
  refine K.mono ?_;rintro e w1 ⟨rfl,j,O,h1,D,_⟩;obtain⟨_,_,c18,_⟩:=h1.cells;have Z:=h1.blk.frozen 18;rw[V.out] at c18;have R:=jz h1;have U:=jz D;clear h1 D K;go_wp2_with fail
  go_ret;have h3:=R.out.clock 1099511627776 (by omega);refine⟨by rw[x.out];rfl,j,O,?_,U.out.trans h3.2⟩;rw[J.out,x.out,<- I.out];exact h3.1
 have a0:¬(1099511627776-t<n):=by omega
 rw[jQ a0] at x;rcases Int.lt_or_le 0 n with t2|t2
 ·rw[jP t2] at x;have hs:t+n<=1099511627776:=by omega
  go_enter func68,ntmps68
  go_wp2_with fail
  refine K.mono ?_;rintro e w1 ⟨rfl,j,O,h1,D,_⟩;obtain⟨_,_,c18,_⟩:=h1.cells;have Z:=h1.blk.frozen 18;rw[V.out] at c18;have R:=jz h1;have U:=jz D;clear h1 D K;go_wp2_with fail
  go_ret;have h3:=R.out.clock (t+n) (by omega);refine⟨by rw[x.out];rfl,j,O,?_,U.out.trans h3.2⟩;rw[J.out,x.out,<- I.out];exact h3.1
 ·have a1:¬(0<n):=by omega
  rw[jQ a1] at x;go_enter func68,ntmps68
  go_wp2_with fail
  refine K.mono ?_;rintro e w1 ⟨rfl,j,O,h1,D,_⟩;obtain⟨_,_,c18,_⟩:=h1.cells;have Z:=h1.blk.frozen 18;rw[V.out] at c18;have R:=jz h1;have U:=jz D;clear h1 D K;go_wp2_with fail
  go_ret;refine⟨by rw[x.out];rfl,j,O,?_,U⟩;rw[J.out,x.out,<- I.out,<- V.out];exact R.out
end
end
section
open Go.RowKit
attribute [local irreducible] wpQuiet wpAnyH
theorem OC(key:Nat->Nat)(skew:Int)(g:Nat):prog.built 154 [(0,.agg (arr 16 (c8 key)).toArray),(1,.int .i64 skew),(2,.pointer (some ⟨g,0,none⟩))]=some (yZ key skew g 0 (.pointer none)):=by unfold yZ;kernel_rfl
def iU(skew:Int)(s:VS):Ans×VS:=match (cI (dY s.d)).2.2 with
 | none=>((cI (dY s.d)).1,⟨(cI (dY s.d)).2.1,s.now,none⟩)
 | some (L,es)=>((cI (dY s.d)).1,⟨(cI (dY s.d)).2.1,s.now,some ⟨L,bT (gD es) s.now,iR s.now skew⟩⟩)
def gA(s:VS):EL:=match (aN s).co with
 | none=>[]
 | some C=>bT C.E s.now
def mD(s:VS):Ans×VS:=match (aN s).co with
 | none=>(some (12,none),aN s)
 | some C=>((gL s.d (s.d.sec.length/2) C s.now).1,aN ⟨(gL s.d (s.d.sec.length/2) C s.now).2.1,s.now,some (gL s.d (s.d.sec.length/2) C s.now).2.2⟩)
section
variable {w0 w w' : Wd} {m m' : DiskM} {gv k N : Nat} {key : Nat -> Nat} {skew : Int} {s : VS} {cv : Value} {F : List Nat} {d : DiskD}
theorem Z5(key:Nat->Nat)(skew:Int)(hs:1<=skew/\skew<=1073741824)(h:St w0 w m d)(hl:d.sec.length=N)(hN:N<=30)(hr:d.room<=200*k):
  Wc 40 #[.agg (arr 16 (c8 key)).toArray,.int .i64 skew,.pointer (some ⟨m.g,0,none⟩)] w λe w'=>∃ gv,e = .returned (.pointer (some ⟨gv,0,none⟩))/\VV w0 w' m gv k N key skew ⟨d,0,none⟩ (.pointer none) []/\Bw w w'/\w.heap.size<=gv:=by
 have H:=jz h;have HL:=jz hl;have HS:=jz hs;have a1:¬skew<1:=by omega
 have a2:¬(1073741824:Int)<skew:=by omega
 have a3:skew<=1073741824:=hs.2;have a4:1<=skew:=hs.1;obtain⟨g,hg⟩:=je m.g;have K:=jz (OC key skew m.g);rw[<- hg] at K ⊢;have HG:=jz hg;obtain⟨I,x⟩:=je (w.alloc (.cells (arr 16 (c8 key)).toArray 35));have j:Hid (Bw w I):=jz (by rw[x];exact aH _ _);have U:Hid (Blk I w.heap.size 35 (arr 16 (c8 key)).toArray):=jz (by rw[x];exact Blk.new _ _ _);have R:I.rangeAt w.heap.size 0 (arr 16 (c8 key)):=by have:=U.range;rwa [jt] at this
 have O:(prog.info? 35).map (·.size)=some (arr 16 (c8 key)).length:=by rw[aB];kernel_rfl
 obtain⟨w2,D⟩:=je (I.alloc (.cells (yZ key skew g 0 (.pointer none)) 154));have J:Hid (Bw I w2):=jz (by rw[D];exact aH _ _);have V:Hid (Blk w2 I.heap.size 154 (yZ key skew g 0 (.pointer none))):=jz (by rw[D];exact Blk.new _ _ _);have a0:=jz R;have Z:=jz O;clear R O;clear h hl hs hg;go_enter func40,ntmps40
 go_upto_region 1 with fail
 rw[<- x];clear x;go_upto_region 3 with fail
 go_wp2_with (first
  | (refine ld 35 (.tmp 3) rfl rfl (by rfl) a0 underlying35 rfl Z ?_)
  | (refine eQ 154 _ rfl rfl (by rfl) K ?_))
 rw[<- D];clear D;go_ret;refine⟨_,rfl,?_,aA j J,j.size⟩;have h1:=H.out.keep (aA j J);have hb:=V.out;rw[HG.out] at hb;exact⟨h1,hb,.inl ⟨rfl,rfl,rfl⟩,⟨Apart.fresh H.out.dk j.size,λhm=>by cases hm⟩,jm H.out.bel.size j.size,⟨Int.le_refl _,by show(0:Int)<=_;omega⟩,HS,HL,hN,hr⟩
theorem VV.opened{J d':DiskD}{gc gl gi bi n k':Nat}{C:CacheD}{x:Wd}(h:VV w0 x m gv k N key skew ⟨J,s.now,none⟩ (.pointer none) [])(hk:DK w' m' d')(ht:DT x m w' m')(V:d'.sec.length=J.sec.length)(Z:d'.room<=200*k')(O:k<=k')
  (K:CK w' m' d' gc gl gi bi (J.sec.length/2) n C) (hn:n<=30+k') (h1:x.heap.size<=gc/\x.heap.size<=gl/\x.heap.size<=gi/\x.heap.size<=bi):
  VV w0 (w'.setCell ⟨gv,19,none⟩ (.pointer (some ⟨gc,0,none⟩))) m' gv k' N key skew ⟨d',s.now,some C⟩ (.pointer (some ⟨gc,0,none⟩)) [gl,bi,gc,gi]/\VT gv x m [] (w'.setCell ⟨gv,19,none⟩ (.pointer (some ⟨gc,0,none⟩))) m' [gl,bi,gc,gi]:=by
 obtain⟨j,U⟩:=h.disk hk ht V Z O;have a0:=h.blk.lt;have I:Off gv w' (w'.setCell ⟨gv,19,none⟩ (.pointer (some ⟨gc,0,none⟩))):=(Off.refl gv w').set _ _;have hb:=j.blk.set_ (16+3) (.pointer (some ⟨gc,0,none⟩));rw[FQ] at hb;have D:∀ b∈[gl,bi,gc,gi],x.heap.size<=b:=λb hb=>by
  simp at hb;rcases hb with rfl|rfl|rfl|rfl
  ·exact h1.2.1
  ·exact h1.2.2.2
  ·exact h1.1
  ·exact h1.2.2.1
 have R:=h.st.bel.size;refine⟨⟨⟨j.st.dk.offO I j.far.1,j.st.ft,j.st.bel.trans (I.below h.lo j.st.bel.size)⟩,hb,.inr ⟨gc,gl,gi,bi,C,rfl,rfl,rfl,?_,λb hb=>jm R (D b hb)⟩,⟨j.far.1,λhm=>by have:=D gv hm;omega⟩,h.lo,h.now,h.skew,j.len,h.few,Z⟩,⟨U.ct.trans (CT.of_off I (List.mem_cons_self ..)),λb hb=>.inr (D b hb)⟩⟩;show CK _ m' d' gc gl gi bi (d'.sec.length/2) (30+k') C;rw[V];exact(K.up hn).off I j.far.1 (by omega) (by omega) (by omega) (by omega)
theorem YS(h:VV w0 w m gv k N key skew s cv F)(hk:k<=200):Wc 69 #[.pointer (some ⟨gv,0,none⟩)] w λe w'=>e = .returned (bM (iU skew s).1)/\∃ m' cv' F',VV w0 w' m' gv (k+1) N key skew (iU skew s).2 cv' F'/\VT gv w m F w' m' F':=by
 obtain⟨c16,c17,c18,c19⟩:=h.cells;have e1:=h.blk.frozen 19;obtain⟨a3,b1⟩:=h.drop;obtain⟨w1,c3⟩:=je (w.setCell ⟨gv,19,none⟩ (.pointer none));rw[<- c3] at a3 b1;have a8:=jz (GU w1 m s.d a3.st.dk);obtain⟨d7,c6,a9,e0⟩:=a3.cells;obtain⟨g9,b7⟩:=je m.g;rw[<- b7] at c17 c6 a8;have O:=jz b7;have g8:=h.skew;have f1:=h.now;have c4:=jz a3;have c5:=jz b1;clear h a3 b1 b7;obtain⟨now,K⟩:=je s.now;replace a9:w1.cell? ⟨gv,18,none⟩=some (.int .i64 now):=by rw[K];exact a9
 rw[<- K] at c18 f1;have I:=jz K;clear K c16 c18;go_enter func69,ntmps69
 go_wp2_with fail
 rw[<- c3];clear c3 c17 c19 e1;refine a8.mono ?_;rintro e w2 ⟨rfl,c2,d1⟩;have D:=c4.disk c2 d1 rfl c4.rm (ja _);obtain⟨f6,c7,c9,f7⟩:=D.1.cells;replace c7:w2.cell? ⟨gv,17,none⟩=some (.pointer (some ⟨g9,0,none⟩)):=by rw[O.out];exact c7
 replace c9:w2.cell? ⟨gv,18,none⟩=some (.int .i64 now):=by rw[I.out];exact c9
 have f2:=D.1.blk.frozen 19;have g0:(dY s.d).room<=200*k:=D.1.rm;have f9:(dY s.d).sec.length=N:=D.1.len;have f8:=D.1.few;have R:=jz (YP skew now w2.drew m (dY s.d) D.1.drew.st.dk (by omega) (by omega) ⟨by omega,by omega⟩ ⟨by omega,by omega⟩);have a5:=jz (RX c2.ok.st);have a7:=jz (NU (dY s.d));have a6:=jz (tF (dY s.d));rw[<- O.out] at R;have J:=jz D;clear D c2 d1 a8 d7 c6 a9 e0;have HR:Hid (iU skew s=match (generalizing:=false) (cI (dY s.d)).2.2 with
  | none=>((cI (dY s.d)).1,⟨(cI (dY s.d)).2.1,s.now,none⟩)
  | some (L,es)=>((cI (dY s.d)).1,⟨(cI (dY s.d)).2.1,s.now,some ⟨L,bT (gD es) s.now,iR s.now skew⟩⟩)):=jz rfl
 have e8:=a6.out;rcases e8 with ⟨x,h1,h2⟩|⟨L,es,h1,h2,h3⟩
 ·have Z:Hid (iU skew s=(some x,⟨(cI (dY s.d)).2.1,s.now,none⟩)):=jz (by rw[HR.out,h2,h1]);rw[h1] at R;obtain⟨ty,u,hv⟩:=bW x;have d5:=jz hv;rw[hv] at R;have f0:=dC ty u;clear hv h1 h2 HR a6;go_wp2_with fail
  -- region 5a
  have a1:Hid (VC gv skew g9 now (.pointer none) w2.drew):=jz (by rw[O.out,I.out];exact J.out.1.drew.vc);refine kZ (n:=18) (VC gv skew g9 now (.pointer none)) (a1) (h:=λhH=>?_);refine qM 0 (.pointer (some ⟨gv,0,none⟩)) ?_;refine qT 1 (.pointer (some ⟨gv,0,none⟩)) ?_;refine qT 2 (.pointer (some ⟨gv,17,none⟩)) ?_;refine qC 3 (v:=.pointer (some ⟨g9,0,none⟩)) (λW hX=>hX.c17) ?_;refine qM 4 (.pointer (some ⟨gv,0,none⟩)) ?_;refine qT 5 (.pointer (some ⟨gv,0,none⟩)) ?_;refine qT 6 (.pointer (some ⟨gv,16,none⟩)) ?_;refine qC 7 (v:=.int .i64 skew) (λW hX=>hX.c16) ?_;refine qM 8 (.pointer (some ⟨gv,0,none⟩)) ?_;refine qT 9 (.pointer (some ⟨gv,0,none⟩)) ?_;refine qT 10 (.pointer (some ⟨gv,18,none⟩)) ?_;refine qC 11 (v:=.int .i64 now) (λW hX=>hX.c18) ?_;refine kF 12 (some 29) ((R).mono ?_);rintro e w3 ⟨pc,m3,rfl,U,j,_⟩;have V:=J.out.1.drew.disk (k':=k+1) U j a7 (by have:=a5.out;omega) (by omega);have a0:=jz V;have a2:Hid (VC gv skew g9 now (.pointer none) w3):=jz (by rw[O.out,I.out,<- j.g];exact V.1.vc);clear U j V;refine⟨_,rfl,a2,λhH=>?_⟩;simp only[jq];refine qM 13 (.tuple #[pc,.iface ty u]) ?_;refine qT 14 (pc) ?_;refine qT 15 (.iface ty u) ?_;refine qT 16 (pc) ?_;refine qT 17 (.iface ty u) ?_;refine kE (h:=?_);clear hH a1
  -- end of region 5a
  go_wp2_with fail
  go_ret;refine⟨by rw[Z.out];exact congrArg Ending.returned d5.symm,m3,.pointer none,[],?_,c5.trans (J.out.2.trans a0.out.2.undrew)⟩;rw[Z.out];exact a0.out.1
 ·have Z:Hid (iU skew s=(none,⟨(cI (dY s.d)).2.1,s.now,some ⟨L,bT (gD es) s.now,iR s.now skew⟩⟩)):=jz (by rw[HR.out,h2,h1]);have d2:bM none = .nilIface:=rfl;rw[h1,d2] at R;have f0:=o4;have H2:=jz h2;have H3:=jz h3;clear h1 h2 h3 HR a6 d2;go_wp2_with fail
  -- region 5b
  have a1:Hid (VC gv skew g9 now (.pointer none) w2.drew):=jz (by rw[O.out,I.out];exact J.out.1.drew.vc);refine kZ (n:=18) (VC gv skew g9 now (.pointer none)) (a1) (h:=λhH=>?_);refine qM 0 (.pointer (some ⟨gv,0,none⟩)) ?_;refine qT 1 (.pointer (some ⟨gv,0,none⟩)) ?_;refine qT 2 (.pointer (some ⟨gv,17,none⟩)) ?_;refine qC 3 (v:=.pointer (some ⟨g9,0,none⟩)) (λW hX=>hX.c17) ?_;refine qM 4 (.pointer (some ⟨gv,0,none⟩)) ?_;refine qT 5 (.pointer (some ⟨gv,0,none⟩)) ?_;refine qT 6 (.pointer (some ⟨gv,16,none⟩)) ?_;refine qC 7 (v:=.int .i64 skew) (λW hX=>hX.c16) ?_;refine qM 8 (.pointer (some ⟨gv,0,none⟩)) ?_;refine qT 9 (.pointer (some ⟨gv,0,none⟩)) ?_;refine qT 10 (.pointer (some ⟨gv,18,none⟩)) ?_;refine qC 11 (v:=.int .i64 now) (λW hX=>hX.c18) ?_;refine kF 12 (some 29) ((R).mono ?_);rintro e w3 ⟨pc,m3,rfl,U,j,b0⟩;unfold CN at b0;rw[H2.out] at b0;obtain⟨gc,gl,gi,bi,rfl,d0,g1,g2,g3,g4,_⟩:=b0;have V:=J.out.1.drew.opened (k':=k+1) U j a7 (by have:=a5.out;omega) (by omega) d0 (by have:=H3.out;omega) ⟨g1,g2,g3,g4⟩;have a4:=(J.out.1.drew.disk (k':=k+1) U j a7 (by have:=a5.out;omega) (by omega)).1;have a2:Hid (VC gv skew g9 now (.pointer none) w3):=jz (by rw[O.out,I.out,<- j.g];exact a4.vc);have f5:=a4.cells.2.2.2;have f3:=a4.blk.frozen 19;have a0:=jz V;clear U j d0 g1 g2 g3 g4 V a4;refine⟨_,rfl,a2,λhH=>?_⟩;simp only[jq];refine qM 13 (.tuple #[.pointer (some ⟨gc,0,none⟩),.nilIface]) ?_;refine qT 14 (.pointer (some ⟨gc,0,none⟩)) ?_;refine qT 15 (.nilIface) ?_;refine qT 16 (.pointer (some ⟨gc,0,none⟩)) ?_;refine qT 17 (.nilIface) ?_;refine kE (h:=?_);clear hH a1
  -- end of region 5b
  go_wp2_with fail
  go_ret;refine⟨by rw[Z.out];rfl,m3,.pointer (some ⟨gc,0,none⟩),[gl,bi,gc,gi],?_,c5.trans (J.out.2.trans a0.out.2.undrew)⟩;rw[Z.out,<- I.out];have h:=a0.out.1;rw[<- I.out] at h;exact h
theorem YT(h:VV w0 w m gv k N key skew s cv F)(hk:k<=200):Wc 48 #[.pointer (some ⟨gv,0,none⟩)] w λe w'=>∃ v,e = .returned v/\Sn w' 33 v (gA s).length ((gA s).flatMap aO)/\∃ cv' F',VV w0 w' m gv k N key skew (aN s) cv' F'/\VT gv w m F w' m F':=by
 have j:=jz (yA h);have HN:Hid ((aN s).now=s.now):=jz (kG s);clear h;have D:Hid (gA s=match (generalizing:=false) (aN s).co with|none=>[]|some C=>bT C.E s.now):=jz rfl;obtain⟨co,x⟩:=je ((aN s).co);rw[<- x] at j D;have Z:=jz x;clear x;cases co with
 | none=>
  have hb:(none:Option CacheD).isSome=false:=rfl;rw[hb] at j;clear hb;go_enter func48,ntmps48
  go_wp2_with fail
  refine j.mono ?_;rintro e w1 ⟨rfl,a0,F1,h1,J⟩;have R:=jz h1;have U:=jz J;clear h1 J j;go_wp2_with fail
  go_ret;rw[D.out];exact⟨_,rfl,⟨none,0,rfl,ja _,rfl,λh=>absurd h (by simp)⟩,_,_,R,U⟩
 | some C=>
  have hb:(some C:Option CacheD).isSome=true:=rfl;rw[hb] at j;clear hb;go_enter func48,ntmps48
  go_wp2_with fail
  refine j.mono ?_;rintro e w1 ⟨rfl,a0,F1,h1,J⟩;obtain⟨_,_,c18,c19⟩:=h1.cells;rw[HN.out] at c18;have x:=h1.co;rw[<- Z.out] at x;rcases x with ⟨_,_,hc⟩|⟨gc,gl,gi,bi,C',rfl,_,hc,O,_⟩
  ·cases hc
  injection hc with hc
  subst hc;have V:=jz (YN s.now (O.keep (ji _ _).drew) (by omega));have R:=jz h1;have U:=jz J;clear h1 J j O;go_wp2_with fail
  -- region L
  have I:Hid (VC gv skew m.g s.now (.pointer (some ⟨gc,0,none⟩)) w1.drew):=jz (by rw[<- HN.out];exact R.out.drew.vc);refine kZ (n:=10) (VC gv skew m.g s.now (.pointer (some ⟨gc,0,none⟩))) (I) (h:=λhH=>?_);refine qM 0 (.pointer (some ⟨gv,0,none⟩)) ?_;refine qT 1 (.pointer (some ⟨gv,0,none⟩)) ?_;refine qT 2 (.pointer (some ⟨gv,19,none⟩)) ?_;refine qC 3 (v:=.pointer (some ⟨gc,0,none⟩)) (λW hX=>hX.c19) ?_;refine qM 4 (.pointer (some ⟨gv,0,none⟩)) ?_;refine qT 5 (.pointer (some ⟨gv,0,none⟩)) ?_;refine qT 6 (.pointer (some ⟨gv,18,none⟩)) ?_;refine qC 7 (v:=.int .i64 s.now) (λW hX=>hX.c18) ?_;refine kF 8 (some 14) ((V).mono ?_);rintro e w2 ⟨v,rfl,hs,hb,_⟩;have HS:=jz hs;have HB:=jz hb;clear hs;refine⟨_,rfl,I.keep hb,λhH=>?_⟩;simp only[jq];refine qT 9 (v) ?_;refine kE (h:=?_);clear hH I
  -- end of region L
  go_wp2_with fail
  go_ret;rw[D.out];have K:=aA (ji _ w1).drew HB.out;exact⟨_,rfl,HS,_,_,R.out.keep K,U.out.trans (VT.of_below K)⟩
theorem OD(h:VV w0 w m gv k N key skew s cv F)(hk:k<=60):Wc 73 #[.pointer (some ⟨gv,0,none⟩)] w λe w'=>e = .returned (bM (mD s).1)/\∃ m' cv' F',VV w0 w' m' gv (k+1) N key skew (mD s).2 cv' F'/\VT gv w m F w' m' F':=by
 have j:=jz (yA h);have HN:Hid ((aN s).now=s.now):=jz (kG s);have HD:Hid ((aN s).d=s.d):=jz (LN s);clear h;obtain⟨co,D⟩:=je ((aN s).co);have K:Hid (mD s=match (generalizing:=false) co with
  | none=>(some (12,none),aN s)
  | some C=>((gL s.d (s.d.sec.length/2) C s.now).1,aN ⟨(gL s.d (s.d.sec.length/2) C s.now).2.1,s.now,some (gL s.d (s.d.sec.length/2) C s.now).2.2⟩)):=jz (by rw[D];rfl)
 rw[<- D] at j;have a1:=jz D;clear D;cases co with
 | none=>
  have hb:(none:Option CacheD).isSome=false:=rfl;rw[hb] at j;clear hb;go_enter func73,ntmps73
  go_wp2_with fail
  refine j.mono ?_;rintro e w1 ⟨rfl,a3,F1,h1,U⟩;have H1:=jz h1;have H2:=jz U;clear h1 U j;go_wp2_with fail
  go_ret;rw[K.out];exact⟨rfl,_,_,_,H1.out.up (Nat.le_succ _),H2⟩
 | some C=>
  have hb:(some C:Option CacheD).isSome=true:=rfl;rw[hb] at j;clear hb;go_enter func73,ntmps73
  go_wp2_with fail
  refine j.mono ?_;rintro e w1 ⟨rfl,a3,F1,h1,U⟩;obtain⟨_,_,c18,c19⟩:=h1.cells;rw[HN.out] at c18;have D:=h1.co;rw[<- a1.out] at D;rcases D with ⟨_,_,hc⟩|⟨gc,gl,gi,bi,C',rfl,V,hc,I,a0⟩
  ·cases hc
  injection hc with hc
  subst hc;have a4:=h1.rm;have Z:=I;rw[HD.out] at I a4;have hE:=I.ix.len;have J:=jz (sJ s.now w1.drew m s.d gc gl gi bi (s.d.sec.length/2) (30+k) C (I.keep (ji _ _).drew) (by omega) (by omega));have HBD:=jz (CI I.lk.dk.ok.st (s.d.sec.length/2) C s.now);obtain⟨x,hx⟩:=je (gL s.d (s.d.sec.length/2) C s.now);rw[<- hx] at J HBD K;obtain⟨ve,O⟩:=je (bM x.1);rw[<- O] at J;have a2:=jz O;clear O;have H1:=jz h1;have H2:=jz U;have HF1:=jz V;have HLO:=jz a0;clear h1 U j I Z hx V a0;go_wp2_with fail
  -- region C
  have R:Hid (VC gv skew m.g s.now (.pointer (some ⟨gc,0,none⟩)) w1.drew):=jz (by rw[<- HN.out];exact H1.out.drew.vc);refine kZ (n:=10) (VC gv skew m.g s.now (.pointer (some ⟨gc,0,none⟩))) (R) (h:=λhH=>?_);refine qM 0 (.pointer (some ⟨gv,0,none⟩)) ?_;refine qT 1 (.pointer (some ⟨gv,0,none⟩)) ?_;refine qT 2 (.pointer (some ⟨gv,19,none⟩)) ?_;refine qC 3 (v:=.pointer (some ⟨gc,0,none⟩)) (λW hX=>hX.c19) ?_;refine qM 4 (.pointer (some ⟨gv,0,none⟩)) ?_;refine qT 5 (.pointer (some ⟨gv,0,none⟩)) ?_;refine qT 6 (.pointer (some ⟨gv,18,none⟩)) ?_;refine qC 7 (v:=.int .i64 s.now) (λW hX=>hX.c18) ?_;refine kF 8 (some 16) ((J).mono ?_);rintro e w2 ⟨rfl,m2,hk2,ht2⟩;have hln:x.2.1.sec.length=(aN s).d.sec.length:=by rw[HD.out];exact HBD.out.2
  have hv2:=H1.out.drew.cache (k':=k+1) (co:=some x.2.2) (G:=[gl,bi]) (λb hb=>by rw[HF1.out];simp at hb ⊢;rcases hb with rfl|rfl <;> simp) hk2.lk.dk (.inr ⟨gc,gl,gi,bi,_,rfl,HF1,rfl,by rw[HBD.out.2];exact hk2.up (by omega),HLO⟩) ht2 hln (by have:=HBD.out.1;omega);have HVC2:Hid (VC gv skew m.g s.now (.pointer (some ⟨gc,0,none⟩)) w2):=jz (by have:=hv2.1.vc;rw[ht2.g,HN.out] at this;exact this);rw[HN.out] at hv2;have HLK:=jz (x9 hv2.1);have HV2:=jz hv2.2;clear hk2 ht2 hv2 hln;refine⟨_,rfl,HVC2,λhH=>?_⟩;simp only[jq];refine qT 9 (ve) ?_;refine kE (h:=?_);clear hH R
  -- end of region C
  go_wp2_with fail
  refine HLK.mono ?_;rintro e w3 ⟨rfl,a5,F3,h5,h6,_⟩;have H5:=jz h5;have H6:=jz h6;clear h5 h6 HLK;go_wp2_with fail
  go_ret;rw[K.out];exact⟨by rw[a2.out];rfl,_,_,_,H5,H2.out.trans (HV2.undrew.trans H6)⟩
end
end
section
open Go.RowKit
attribute [local irreducible] wpQuiet wpAnyH
def m7(gv:Nat)(bv:Value)(tk au:Wv):Wv:=[.pointer (some ⟨gv,0,none⟩),bv]++tk++au
theorem o8{g:Nat}{t:TypeId}:∀(new pre mid post:Wv) {w:Wd},mid.length=new.length->Blk w g t (pre++mid++post).toArray->Blk (w.setCells g pre.length new) g t (pre++new++post).toArray
 | [],pre,mid,post,w,hl,h=>by
  obtain rfl:mid=[]:=List.eq_nil_of_length_eq_zero hl;exact h
 | u :: new,pre,[],post,w,hl,h=>by simp at hl
 | u :: new,pre,m :: mid,post,w,hl,h=>by
  have h1:=h.set_ pre.length u;rw[List.setIfInBounds_toArray,List.append_assoc,List.set_append,jQ (by omega),Nat.sub_self] at h1;have x:Blk (w.setCell ⟨g,pre.length,none⟩ u) g t ((pre++[u])++mid++post).toArray:=by simpa using h1
  have j:=o8 new (pre++[u]) mid post (by simpa using hl) x;rw[jj] at j;have e:pre++u :: new++post=(pre++[u])++new++post:=by simp
  rw[e];exact j
theorem dS(g:Nat):∀(vs:Wv) (o:Nat) {w W:Wd},Off g w W->Off g w (W.setCells g o vs)
 | [],o,w,W,h=>h
 | u :: vs,o,w,W,h=>dS g vs (o+1) (h.set o u)
theorem tI{gv:Nat}{bv:Value}{x j:Wv}(h1:x.length=20)(D:j.length=5):(m7 gv bv x j).length=27:=by unfold m7;rw[jj,jj,h1,D];rfl
theorem aW{w:Wd}{g n o:Nat}{t:TypeId}{cs:Wv}(h:Blk w g t cs.toArray)(D:o+n<=cs.length):w.there g o n:=λj x=>⟨by rw[h.cell,jf,List.getElem?_eq_getElem (by omega)];rfl,h.frozen _⟩
structure AtX(ga gv:Nat)(bv:Value)(key:Nat->Nat)(W:Wd):Prop where
 c0:W.cell? ⟨ga,0,none⟩=some (.pointer (some ⟨gv,0,none⟩))
 c1:W.cell? ⟨ga,1,none⟩=some bv
 k:W.rangeAt gv 0 (arr 16 (c8 key))
theorem atX{ga gv:Nat}{bv:Value}{D j:Wv}{key:Nat->Nat}{W:Wd}(h:Blk W ga 209 (m7 gv bv D j).toArray)(x:W.rangeAt gv 0 (arr 16 (c8 key))):AtX ga gv bv key W:=
 ⟨(h.cell 0).trans rfl,(h.cell 1).trans rfl,x⟩
theorem SJ{P:Wv->Wv->Int->Wd->Prop}{ga gv:Nat}{A:Option Addr}{n cap:Nat}{tk0 au0:Wv}{key:Nat->Nat}{w:Wd}(hB:Blk w ga 209 (m7 gv (.slice A n cap) tk0 au0).toArray)(b1:tk0.length=20)(a3:au0.length=5)(hk:w.rangeAt gv 0 (arr 16 (c8 key)))(a7:gv≠ga)
  (a2:∀ W,Bw w W->Wc 71 #[.agg (arr 16 (c8 key)).toArray,.slice A n cap] W λe W'=>∃ x D c,e = .returned (.tuple #[.agg x.toArray,.agg D.toArray,.int .i64 c])/\P x D c W'/\Bw W W')
  (hP:∀ x D c W,P x D c W->x.length=20/\D.length=5/\(∀ u∈x,u.oneCell'=true)/\(∀ u∈D,u.oneCell'=true)) (hS:∀ x D c W W',P x D c W->Off ga W W'->P x D c W'):
  Wc 104 #[.pointer (some ⟨ga,0,none⟩)] w λe w'=>∃ x D c,e = .returned (.int .i64 c)/\P x D c w'/\Blk w' ga 209 (m7 gv (.slice A n cap) x D).toArray/\Off ga w w':=by
 have HB:=jz hB;have HK:=jz hk;have d0:=jz (a2 w.drew ((ji _ _).drew));have HP:=jz hP;have HS:=jz hS;have HL:=jz (And.intro b1 a3);have HX:Hid (AtX ga gv (.slice A n cap) key w.drew):=jz (atX (show Blk w.drew ga _ _ from hB) hk);clear hB hk a2 hP hS b1 a3;go_enter func104,ntmps104
 go_upto_region 2 with fail
 -- region
 refine kZ (n:=25) (AtX ga gv (.slice A n cap) key) (HX) (h:=λhH=>?_);refine qM 0 (.pointer (some ⟨ga,0,none⟩)) ?_;refine qM 1 (.pointer (some ⟨ga,0,none⟩)) ?_;refine qM 2 (.pointer (some ⟨ga,0,none⟩)) ?_;refine qT 3 (.pointer (some ⟨ga,0,none⟩)) ?_;refine qT 4 (.pointer (some ⟨ga,0,none⟩)) ?_;refine qC 5 (v:=.pointer (some ⟨gv,0,none⟩)) (λW hX=>hX.c0) ?_;refine qT 6 (.pointer (some ⟨gv,0,none⟩)) ?_;refine qT 7 (.pointer (some ⟨gv,0,none⟩)) ?_;refine qL 8 (cs:=arr 16 (c8 key)) (λW hX=>hX.k) (aB _ _) ?_;refine qM 9 (.pointer (some ⟨ga,0,none⟩)) ?_;refine qT 10 (.pointer (some ⟨ga,0,none⟩)) ?_;refine qT 11 (.pointer (some ⟨ga,1,none⟩)) ?_;refine qC 12 (v:=.slice A n cap) (λW hX=>hX.c1) ?_;refine kF 13 (some 18) ((d0).mono ?_);rintro e w2 ⟨x,D,c,rfl,hp,hb⟩;obtain⟨q1,q2,q3,q4⟩:=HP.out _ _ _ _ hp;have U:Hid (Blk w2 ga 209 (m7 gv (.slice A n cap) tk0 au0).toArray):=jz (Blk.keep (show Blk w.drew ga _ _ from HB) hb);have V:Hid (w2.rangeAt gv 0 (arr 16 (c8 key))):=jz (λj u hj=>j9 hb (HK j u hj));have d1:=jz (atX U V);have c9:=jz hp;have c4:=jz hb;clear hp hb;refine⟨_,rfl,d1,λhH=>?_⟩;simp only[jq];refine qM 14 (.tuple #[.agg x.toArray,.agg D.toArray,.int .i64 c]) ?_;refine qT 15 (.agg x.toArray) ?_;refine qT 16 (.agg D.toArray) ?_;refine qT 17 (.int .i64 c) ?_;refine qT 18 (.pointer (some ⟨ga,0,none⟩)) ?_;refine qT 19 (.pointer (some ⟨ga,2,none⟩)) ?_;have a1:=HL.out.1;have Z:=HL.out.2;have J:Blk (w2.setCells ga 2 x) ga 209 (m7 gv (.slice A n cap) x au0).toArray:=o8 x [.pointer (some ⟨gv,0,none⟩),.slice A n cap] tk0 au0 (by omega) U.out;have a0:Off ga w2 (w2.setCells ga 2 x):=dS ga x 2 (Off.refl ga w2);have a5:(w2.setCells ga 2 x).rangeAt gv 0 (arr 16 (c8 key)):=λj u hj=>a0.cell (V j u hj) a7
 have c2:=atX J a5;refine kR 20 none (n:=20) (cs:=x) (aW U (by rw[tI a1 Z];omega)) q1 q3 c2 (h:=?_);simp only[jq];refine qT 21 (.pointer (some ⟨ga,0,none⟩)) ?_;refine qT 22 (.pointer (some ⟨ga,22,none⟩)) ?_;have K:Blk ((w2.setCells ga 2 x).setCells ga 22 D) ga 209 (m7 gv (.slice A n cap) x D).toArray:=by
  have h:=o8 D ([.pointer (some ⟨gv,0,none⟩),.slice A n cap]++x) au0 [] (by omega) (by simpa [m7] using J);have e:([Value.pointer (some ⟨gv,0,none⟩),.slice A n cap]++x).length=22:=by simp only[jj,List.length_cons,List.length_nil];omega
  rw[e,List.append_nil] at h;exact h
 have I:Off ga w2 ((w2.setCells ga 2 x).setCells ga 22 D):=dS ga D 22 a0;have a6:((w2.setCells ga 2 x).setCells ga 22 D).rangeAt gv 0 (arr 16 (c8 key)):=λj u hj=>I.cell (V j u hj) a7
 have c3:=atX K a6;refine kR 23 none (n:=5) (cs:=D) (aW J (by rw[tI q1 Z];omega)) q2 q4 c3 (h:=?_);simp only[jq];refine qT 24 (.int .i64 c) ?_;refine kE (h:=?_);obtain⟨w9,b7⟩:=je ((w2.setCells ga 2 x).setCells ga 22 D);rw[<- b7] at K I ⊢;have O:=K;have R:Off ga w w9:=(Off.of_below (b:=ga) ((ji _ w).drew)).trans ((Off.of_below c4).trans I);have a9:=HS.out _ _ _ _ _ c9 I;clear b7 c2 c3 a5 a6 J a0 K I hH q1 q2 q3 q4 a1 Z
 -- end of region
 have a4:=O;have a8:=R;have b0:=a9;have c5:=jz a4;have c6:=jz a8;have c7:=jz b0;clear a4 a8 b0 O R a9;go_wp2_with fail
 go_ret;exact⟨_,_,_,rfl,c7,c5,c6⟩
def tkC(t:TkD)(v:Value):Wv:=[.string (cV t.client.realm),v,.int .i64 (t.start:Nat),.int .i64 (t.fin:Nat)]++arr 16 (c8 t.key)
theorem iH(t:TkD)(v:Value):(tkC t v).length=20:=by unfold tkC;rw[jj,aB];rfl
theorem eU{w:Wd}{base e s n:Nat}{v:Value}{j:Wv}(h:w.ownsRow base e s v n j):v.oneCell'=true:=by
 obtain⟨A,cap,rfl,_⟩:=bO h;rfl
theorem uS{t:TkD}{v:Value}(x:v.oneCell'=true):∀ u∈tkC t v,u.oneCell'=true:=λu j=>by
 unfold tkC at j;rcases List.mem_append.1 j with h|h
 ·simp only[jl,j8,or_false] at h;rcases h with rfl|rfl|rfl|rfl
  ·rfl
  ·exact x
  ·rfl
  ·rfl
 ·unfold arr at h;obtain⟨k,_,rfl⟩:=List.mem_map.1 h;rfl
def TkQ(w:Wd)(t:TkD)(ok:Bool)(e:Ending)(w':Wd):Prop:=Bw w w'/\∃ v,e = .returned (.tuple #[.agg (tkC t v).toArray,.bool ok])/\w'.ownsRow w.heap.size 9 1 v t.client.parts.length (fF t.client.parts)
theorem CR(n:Nat)(h:n<=1099511627776)(W:Wd):(convert 141 2 (.int .u64 (n:Int))).run prog W = .ok (.int .i64 (n:Int)) W:=by
 have h1:=run_convert_int (P:=prog) (w:=W) 141 2 .u64 (n:Int) (by kernel_rfl) (by kernel_rfl);have e:prog.intKind 2 = .i64:=by kernel_rfl
 rw[e] at h1;rw[h1,show IntKind.i64.wrap (n:Int)=(n:Int) from by
  unfold IntKind.wrap
  simp[IntKind.signed,IntKind.bits]
  omega]
theorem JE{n:Nat}{s:RdS}(h:(dM n s).2.2=false):(dM n s).1.length=n:=by
 unfold dM at h ⊢;split
 ·rename_i j;show(s.1.take n).length=n;rw[jv];omega
 ·rename_i j;rw[jQ j] at h;cases h
theorem SK(S:ByteArray)(v:Value)(a b:Int):prog.built 123 [(0,.agg #[.string S,v]),(1,.int .i64 a),(2,.int .i64 b)]=some ([.string S,v,.int .i64 a,.int .i64 b]++arr 16 (c8 λ_=>0)).toArray:=by kernel_rfl
theorem JF(b:Wl)(A:Option Addr)(cap:Nat)(w:Wd)(hs:Sn w 1 (.slice A b.length cap) b.length (u8s b))(hb:Bys b)(hl:b.length<=1000000):
  Wc 163 #[.slice A b.length cap] w (TkQ w (tkR b).1 (tkR b).2):=by
 have K:Hid (tkR b=if (aI 1 (b,false)).1≠1 then (tk0,false)
  else if (eE (aI 1 (b,false)).2).1.2=false then (tk0,false)
  else if iA (dM 16 (aI 8 (aI 8 (eE (aI 1 (b,false)).2).2).2).2).2=false\/(aI 8 (aI 8 (eE (aI 1 (b,false)).2).2).2).1<(aI 8 (eE (aI 1 (b,false)).2).2).1\/1099511627776<(aI 8 (aI 8 (eE (aI 1 (b,false)).2).2).2).1 then (tk0,false)
  else (⟨(eE (aI 1 (b,false)).2).1.1,(aI 8 (eE (aI 1 (b,false)).2).2).1,(aI 8 (aI 8 (eE (aI 1 (b,false)).2).2).2).1,nth (mU (dM 16 (aI 8 (aI 8 (eE (aI 1 (b,false)).2).2).2).2).1)⟩,true)):=jz (by unfold tkR;rfl)
 obtain⟨Z,hZ⟩:=je (tkR b);rw[<- hZ] at K ⊢;clear hZ;have r3:Hid (RdOk (b,false)):=jz ⟨hb,hl⟩;have HS:=jz hs;have b0:=jz (fun(W:Wd) (h:Bw w W)=>r9 (.slice A b.length cap) b W (HS.below h) hl);obtain⟨n,hn⟩:=je b.length;rw[<- hn] at b0 ⊢;clear hs hb hl hn HS;obtain⟨PQ,m6⟩:=je (TkQ w Z.1 Z.2);have r5:=jz m6;rw[<- m6];clear m6;have z1:∀(fn:Fn) (first cap:Wa) (w:Wd),(Instr.makeFunc fn first cap).run prog w = .ok (.func fn first cap) w:=λ_ _ _ _=>rfl
 go_enter func163,ntmps163
 go_upto_region 1 with (refine al 123 tkZ rfl rfl eT ?_)
 obtain⟨w1,f3⟩:=je (w.alloc (.cells tkZ 123));obtain⟨g2,n0⟩:=je w.heap.size;have h2:Hid (Bw w w1):=jz (by rw[f3];exact aH _ _);have q5:Hid (Blk w1 g2 123 tkZ):=jz (by rw[f3,n0];exact Blk.new _ _ _);have a4:Hid (w.heap.size<=g2):=jz (by omega);have O:(prog.info? 123).map (·.size)=some tkZ.size:=by rw[bK];exact tkI
 rw[<- f3,<- n0];clear f3 n0;have R:Hid (∀(W:Wd),Z=(tk0,false)->Bw w W->PQ (.returned (.tuple #[.agg tkZ,.bool false])) W):=jz (λW hz hb=>by
  rw[r5.out,hz]
  exact⟨hb,_,rfl,World.ownsRow_nil _ _ _ _⟩)
 go_wp2_with fail
 refine(b0 w1 h2).mono ?_;rintro e w2 ⟨r,rfl,f2,v7,m8⟩;obtain⟨B,t4⟩:=je w2.heap.size;rw[<- t4] at f2;have y5:=jz f2;have h3:=jz (aA h2 m8);have q6:=jz (q5.keep m8);have HG:Hid (g2≠r/\w.heap.size<=r/\B<=w2.heap.size):=jz ⟨by have:=q5.lt;omega,jm h2.size v7,by omega⟩;have k4:=jz (fR 1 f2 r3 (by omega) (by omega));have d1:=jz (r3.num 1);obtain⟨x1,v8⟩:=je (aI 1 (b,false));rw[<- v8] at k4 d1 K;clear f2 v7 m8 v8 t4 b0;go_wp2_with fail
 refine k4.mono ?_;rintro e w3 ⟨j,v4,rfl⟩;have m1:=jz v4;have h9:=jz (j.blk q6 HG.out.1);have a8:=jz (h3.trans (j.below HG.out.2.1 h3.size));have q2:Hid (B<=w3.heap.size):=jz (jm HG.out.2.2 j.size);obtain⟨c,s1⟩:=x1;simp only at K m1 d1 ⊢;clear j v4 k4 y5 q6 h3;by_cases hc:c≠1
 ·have HZ:Hid (Z=(tk0,false)):=jz (by rw[K.out,jP hc]);have t1:¬(c:Int)=1:=by omega
  go_wp2_with (first
   | (refine eQ 123 _ rfl rfl rfl lL ?_)
   | (refine aP 123 (.tmp 2) (.tmp 19) rfl rfl (by rfl) (by rfl) h9 O rfl eY ?_;intro w9 I J a6 c5))
  refine bodyPost_ret (aC (P:=prog) rfl _ rfl I.range underlying123 rfl (by rw[jk];exact O)) rfl ?_;exact R _ HZ (a8.trans (J.mono a4))
 rw[jQ hc] at K;have t1:(c:Int)=1:=by omega
 have b7:=jz (AG m1 q2 d1);have d2:=jz (uP d1);obtain⟨x2,v9⟩:=je (eE s1);rw[<- v9] at b7 d2 K;clear v9 hc;go_wp2_with fail
 clear t1;refine b7.mono ?_;rintro e w4 ⟨j,v5,v,rfl,h0⟩;have d7:=jz v5;have k0:=jz (j.blk h9 HG.out.1);have q3:=jz (a8.trans (j.below HG.out.2.1 a8.size));have c2:=jz (bI h0 a8.size);obtain⟨⟨nm,ok⟩,s2⟩:=x2;simp only at K d7 d2 c2 ⊢;obtain⟨S,hS⟩:=je (cV nm.realm);have y6:=jz hS;rw[<- hS];clear j v5 b7 m1 h9 a8 h0 hS;obtain⟨VA,vc,rfl,_,_⟩:=bO c2.out;obtain⟨vn,n6⟩:=je nm.parts.length;have z0:=jz n6;rw[<- n6] at c2 ⊢;clear n6;go_upto_region 6 with fail
 obtain⟨w5,f5⟩:=je (w4.alloc (.cells #[.string S,.slice VA vn vc] 121));obtain⟨g6,n1⟩:=je w4.heap.size;have c4:Bw w4 w5:=by rw[f5];exact aH _ _
 have r1:Hid (Blk w5 g6 121 #[.string S,.slice VA vn vc]):=jz (by rw[f5,n1];exact Blk.new _ _ _);have m2:=jz (d7.keep c4);have k1:=jz (k0.keep c4);have c7:=jz (aA q3 c4);have e1:=jz (aK c2 c4);have h8:Hid (g6≠r/\g2≠g6):=jz (by have:=d7.lt;have:=k0.lt;exact⟨by omega,by omega⟩);rw[<- f5,<- n1];clear f5 n1 c4 d7 k0 q3 c2;cases ok with
 | false=>
  have HZ:Hid (Z=(tk0,false)):=jz (by rw[K.out,jP rfl]);go_wp2_with (first
   | (refine eQ 123 _ rfl rfl rfl lL ?_)
   | (refine aP 123 (.tmp 2) (.tmp 27) rfl rfl (by rfl) (by rfl) k1 O rfl eY ?_;intro w9 I J a6 c5))
  refine bodyPost_ret (aC (P:=prog) rfl _ rfl I.range underlying123 rfl (by rw[jk];exact O)) rfl ?_;exact R _ HZ (c7.trans (J.mono a4))
 | true=>
  rw[jQ (by decide)] at K;have c9:=jz (fR 8 m2 d2 (by omega) (by omega));have d5:=jz (d2.num 8);obtain⟨x3,x0⟩:=je (aI 8 s2);rw[<- x0] at c9 d5 K;obtain⟨st,s3⟩:=x3;simp only at K d5 c9;clear x0;go_wp2_with fail
  refine c9.mono ?_;rintro e w6 ⟨j,n2,rfl⟩;have r6:=jz n2;have q7:=jz (j.blk k1 HG.out.1);have HNm6:=jz (j.blk r1 h8.out.1);have h4:=jz (c7.trans (j.below HG.out.2.1 c7.size));have e8:=jz (aQ e1 (λb hb=>j.block b (e1.lt b hb).2 (λe=>cJ e1 m2.choose_spec.1.1 (by decide) (by rw[hb,e]))));have d0:=jz (fR 8 n2 d5 (by omega) (by omega));have b1:=jz (d5.num 8);obtain⟨x4,y0⟩:=je (aI 8 s3);rw[<- y0] at d0 b1 K;obtain⟨en,s4⟩:=x4;simp only at K b1 d0;clear y0 j n2 c9 k1 r1 m2 c7 e1;go_wp2_with fail
  refine d0.mono ?_;rintro e w7 ⟨j,n3,rfl⟩;have r7:=jz n3;have r0:=jz (j.blk q7 HG.out.1);have HNm7:=jz (j.blk HNm6 h8.out.1);have h5:=jz (h4.trans (j.below HG.out.2.1 h4.size));have f0:=jz (aQ e8 (λb hb=>j.block b (e8.lt b hb).2 (λe=>cJ e8 r6.choose_spec.1.1 (by decide) (by rw[hb,e]))));have e0:=jz (QD 16 n3 b1 (by omega));have r2:=jz (b1.next 16);have k3:=jz (JE (n:=16) (s:=s4));have m4:=jz (pY b1 16);obtain⟨x5,y1⟩:=je (dM 16 s4);rw[<- y1] at e0 r2 K k3 m4;obtain⟨ky,s5⟩:=x5;simp only at K r2 e0 k3 m4;clear y1 j n3 d0 q7 HNm6 r6 h4 e8;go_wp2_with fail
  refine e0.mono ?_;rintro e w8 ⟨j,v6,y,rfl,n4⟩;obtain⟨YA,yc,rfl,_⟩:=id n4;have m3:=jz n4;have a5:=jz (j.blk r0 HG.out.1);have HNm8:=jz (j.blk HNm7 h8.out.1);have a3:=jz (h5.trans (j.below HG.out.2.1 h5.size));have t3:=jz (aQ f0 (λb hb=>j.block b (f0.lt b hb).2 (λe=>cJ f0 r7.choose_spec.1.1 (by decide) (by rw[hb,e]))));have HD:=jz (wL v6);obtain⟨dn,m9⟩:=je (iA s5);rw[<- m9] at HD K;have y4:=jz m9;clear j v6 n4 e0 r0 HNm7 r7 h5 f0 m9;cases dn with
  | false=>
   have HZ:Hid (Z=(tk0,false)):=jz (by rw[K.out,jP (.inl rfl)]);go_wp2_with fail
   refine HD.mono ?_;rintro e w9 ⟨rfl,rfl⟩;go_wp2_with (first
    | (refine eQ 123 _ rfl rfl rfl lL ?_)
    | (refine aP 123 (.tmp 2) (.tmp 46) rfl rfl (by rfl) (by rfl) a5 O rfl eY ?_;intro w9 I J a6 c5))
   refine bodyPost_ret (aC (P:=prog) rfl _ rfl I.range underlying123 rfl (by rw[jk];exact O)) rfl ?_;exact R _ HZ (a3.trans (J.mono a4))
  | true=>
   go_wp2_with fail
   refine HD.mono ?_;rintro e w9 ⟨rfl,rfl⟩;clear HD;by_cases hse:en<st
   ·have HZ:Hid (Z=(tk0,false)):=jz (by rw[K.out,jP (.inr (.inl hse))]);have t1:(en:Int)<st:=by omega
    go_wp2_with (first
     | (refine eQ 123 _ rfl rfl rfl lL ?_)
     | (refine aP 123 (.tmp 2) (.tmp 46) rfl rfl (by rfl) (by rfl) a5 O rfl eY ?_;intro w9 I J a6 c5))
    refine bodyPost_ret (aC (P:=prog) rfl _ rfl I.range underlying123 rfl (by rw[jk];exact O)) rfl ?_;exact R _ HZ (a3.trans (J.mono a4))
   have t1:¬(en:Int)<st:=by omega
   by_cases hmx:1099511627776<en
   ·have HZ:Hid (Z=(tk0,false)):=jz (by rw[K.out,jP (.inr (.inr hmx))]);have t2:(1099511627776:Int)<en:=by omega
    go_wp2_with (first
     | (refine eQ 123 _ rfl rfl rfl lL ?_)
     | (refine aP 123 (.tmp 2) (.tmp 46) rfl rfl (by rfl) (by rfl) a5 O rfl eY ?_;intro w9 I J a6 c5))
    refine bodyPost_ret (aC (P:=prog) rfl _ rfl I.range underlying123 rfl (by rw[jk];exact O)) rfl ?_;exact R _ HZ (a3.trans (J.mono a4))
   have t2:¬(1099511627776:Int)<en:=by omega
   rw[jQ (λh=>by
    rcases h with h|h|h
    ·cases h
    ·exact hse h
    ·exact hmx h)] at K
   have k2:Hid (ky.length=16):=jz (k3 (IR y4.symm));have g8:=k2.out;rw[g8] at m3 ⊢;clear g8;have v0:=CR st (by omega);have v3:=CR en (by omega);have h6:=jz (SK S (.slice VA vn vc) (st:Nat) (en:Nat));have s0:Hid (w8.rangeAt g6 0 [.string S,.slice VA vn vc]):=jz HNm8.range;obtain⟨C,hC⟩:∃ C:Wv,C=[.string S,.slice VA vn vc,.int .i64 (st:Nat),.int .i64 (en:Nat)]++arr 16 (c8 λ_=>0):=⟨_,rfl⟩;have m5:C.length=20:=by rw[hC,jj,aB];rfl
   have t5:C.toArray.all (·.oneCell')=true:=all_oneCell_toArray (λu hu=>by
    rw[hC] at hu
    rcases List.mem_append.1 hu with h|h
    ·simp only[jl,j8,or_false] at h
     rcases h with rfl|rfl|rfl|rfl <;> rfl
    ·unfold arr at h
     obtain⟨k,_,rfl⟩:=List.mem_map.1 h
     rfl)
   have t6:(prog.info? 123).map (·.size)=some C.toArray.size:=by rw[js,m5];exact tkI
   have t7:tkZ.size=C.toArray.size:=by rw[bK,js,m5]
   rw[<- hC] at h6;have q4:=jz hC;have h7:=jz (And.intro t6 (And.intro t7 t5));clear hC m5 t6 t7 t5;go_upto_region 12 with fail
   clear t1 t2;go_upto_region 13 with (first
    | (refine ld 121 (.tmp 6) rfl rfl (by rfl) s0 underlying121 rfl n9 ?_)
    | (refine eQ 123 _ rfl rfl rfl h6 ?_)
    | (refine al 123 tkZ rfl rfl eT ?_)
    | (refine bZ 123 (.tmp 11) (.tmp 52) rfl rfl (by rfl) (by rfl) h7.out.1 h7.out.2.1 h7.out.2.2 ?_;intro c6 c3 U y2))
   simp only[jq];obtain⟨x,g3⟩:=je w8.heap.size;rw[<- g3] at c3 ⊢;have V:Hid (Blk c6 x 123 C.toArray):=jz c3;have f7:=jz (a5.keep U);have a7:=jz (aA a3 U);have a0:=jz (aK t3 U);have f9:=jz (m3.below U);have f6:Hid (g2≠x/\w.heap.size<=x):=jz (by have:=a5.lt;have:=a3.size;exact⟨by omega,by omega⟩);have t0:Hid (c6.there x 4 16):=jz (aW V (by have:=q4.out;rw[this,jj,aB];exact ja _));clear c3 U y2 g3 v0 v3 m3 a5 a3 t3 HNm8 s0 h6;go_upto_region 14 with (refine cp (.tmp 54) (.tmp 55) rfl (by rfl) (b:=x) (off:=4) (dn:=16) (dc:=16) (by rfl) (by rfl) underlying68 (by kernel_rfl) f9 (ja _) t0 (bS _) ?_)
   obtain⟨q0,a2⟩:=je (c6.setCells x 4 (u8s ky));have g1:Blk q0 x 123 (tkC ⟨nm,st,en,nth (mU ky)⟩ (.slice VA vn vc)).toArray:=by
    have h:=o8 (u8s ky) [.string S,.slice VA vn vc,.int .i64 (st:Nat),.int .i64 (en:Nat)] (arr 16 (c8 λ_=>0)) [] (w:=c6) (g:=x) (t:=123) (by rw[aB,aJ,k2.out]) (by
     have h:=V.out
     rw[q4.out] at h
     simpa using h)
    rw[List.append_nil] at h;rw[a2];have e:u8s ky=arr 16 (c8 (nth (mU ky))):=by
     rw[rB m4.out.1];exact BQ (by rw[dR];exact k2)
    unfold tkC;rw[<- e,<- y6.out];exact h
   have a1:Off x c6 q0:=by rw[a2];exact dS x _ 4 (Off.refl _ _)
   have f8:=jz (a1.blk f7 f6.out.1);have q1:=jz (a7.trans (a1.below f6.out.2 a7.size));have g0:=jz (aQ a0 (λb hb=>a1.block b (a0.lt b hb).2 (λe=>cJ a0 V (by decide) (by rw[hb,e]))));obtain⟨D,hD⟩:=je (tkC ⟨nm,st,en,nth (mU ky)⟩ (.slice VA vn vc));have f1:D.length=20:=by rw[hD];exact iH _ _
   have t9:D.toArray.all (·.oneCell')=true:=all_oneCell_toArray (by rw[hD];exact uS rfl);have b7:Hid (q0.rangeAt x 0 D):=jz (by have h:=g1.range;rw[jt,<- hD] at h;exact h);have a9:Hid ((prog.info? 123).map (·.size)=some D.length/\(prog.info? 123).map (·.size)=some D.toArray.size/\tkZ.size=D.toArray.size/\D.toArray.all (·.oneCell')=true):=jz ⟨by rw[f1];exact tkI,by rw[js,f1];exact tkI,by rw[bK,js,f1],t9⟩;have y3:=jz hD;rw[<- a2];clear g1 a1 a2 hD f1 t9 V f7 a7 a0 f9 t0;go_wp2_with (first
    | (refine ld 123 (.tmp 11) rfl rfl (by rfl) b7 underlying123 rfl a9.out.1 ?_)
    | (refine aP 123 (.tmp 2) (.tmp 57) rfl rfl (by rfl) (by rfl) f8 a9.out.2.1 a9.out.2.2.1 a9.out.2.2.2 ?_;intro w9 I J a6 c5))
   refine bodyPost_ret (aC (P:=prog) rfl _ rfl I.range underlying123 rfl (by rw[jt];exact a9.out.1)) rfl ?_;rw[r5.out,K.out];refine⟨q1.trans (J.mono a4),.slice VA vn vc,?_,?_⟩
   ·rw[jt,y3.out];rfl
   ·have h:=aQ g0 (λb hb=>a6 b (λe=>cJ g0 f8 (by decide) (by rw[hb,e])));show w9.ownsRow _ _ 1 (.slice VA vn vc) nm.parts.length _;rw[<- z0.out];exact h
def auC(a:AuD)(v:Value):Wv:=[.string (cV a.client.realm),v,.int .i64 (a.time:Nat),.int .u32 (a.micro:Nat),.int .u32 (a.seq:Nat)]
theorem CU{a:AuD}{v:Value}(x:v.oneCell'=true):∀ u∈auC a v,u.oneCell'=true:=λu j=>by
 unfold auC at j;simp only[jl,j8,or_false] at j;rcases j with rfl|rfl|rfl|rfl|rfl
 ·rfl
 ·exact x
 ·rfl
 ·rfl
 ·rfl
def AuQ(w:Wd)(a:AuD)(ok:Bool)(e:Ending)(w':Wd):Prop:=Bw w w'/\∃ v,e = .returned (.tuple #[.agg (auC a v).toArray,.bool ok])/\w'.ownsRow w.heap.size 9 1 v a.client.parts.length (fF a.client.parts)
theorem SL(S:ByteArray)(v:Value)(a b c:Int):prog.built 125 [(0,.agg #[.string S,v]),(1,.int .i64 a),(2,.int .u32 b),(3,.int .u32 c)]=some #[.string S,v,.int .i64 a,.int .u32 b,.int .u32 c]:=by kernel_rfl
theorem FT(n:Nat)(h:n<4294967296)(W:Wd):(convert 141 51 (.int .u64 (n:Int))).run prog W = .ok (.int .u32 (n:Int)) W:=by
 have h1:=run_convert_int (P:=prog) (w:=W) 141 51 .u64 (n:Int) (by kernel_rfl) (by kernel_rfl);have e:prog.intKind 51 = .u32:=by kernel_rfl
 rw[e] at h1;rw[h1,show IntKind.u32.wrap (n:Int)=(n:Int) from by
  unfold IntKind.wrap
  simp[IntKind.signed,IntKind.bits]
  omega]
def sz3:Wa:=#[.int .i64 8,.int .i64 4,.int .i64 4]
theorem AU(w:Wd):Wc 170 #[] w (Rt w (.agg sz3)):=by
 go_enter func170,ntmps170
 go_wp2
 exact bodyPost_ret (results_cell_row (P:=prog) rfl _ _ w.heap.size _ sz3 (0,0) _ rfl (heap_alloc_new w _) underlying286 rfl (by kernel_rfl)) rfl ⟨rfl,(ji _ w).alloc (ja _) _⟩
def szN(k:Nat):Nat:=if k=0 then 8 else 4
def CV(s:RdS):Nat->RdS
 | 0=>s
 | k+1=>(aI (szN k) (CV s k)).2
def pF(s:RdS)(k:Nat):Nat:=(aI (szN k) (CV s k)).1
theorem CW{s:RdS}(h:RdOk s):∀ k,RdOk (CV s k)
 | 0=>h
 | k+1=>(CW h k).num _
theorem XJ(k:Nat)(x:k<3)(W:Wd):(Instr.index 286 (.agg #[.int .i64 8,.int .i64 4,.int .i64 4]) (.int .i64 (k:Int))).run prog W = .ok (.int .i64 ((szN k:Nat):Int)) W:=by
 refine fD _ k underlying286 x (λw=>by kernel_rfl) (λw=>by kernel_rfl) ?_ W;have j:k=0\/k=1\/k=2:=by omega
 rcases j with rfl|rfl|rfl <;> rfl
def OE(s:RdS)(k:Nat):Nat->Value:=λj=>.int .u64 ((if j<k then pF s j else 0:Nat):Int)
def fz3:Wa:=#[.int .u64 0,.int .u64 0,.int .u64 0]
theorem YU:∀ w,(zeroValue 285).run prog w = .ok (.agg fz3) w:=λw=>by unfold fz3;kernel_rfl
theorem SN(s:RdS)(k j:Nat):cO (OE s k) k (.int .u64 ((pF s k:Nat):Int)) j=OE s (k+1) j:=by
 unfold cO OE;by_cases h:j=k
 ·subst h;rw[jP rfl,jP (Nat.lt_succ_self _)]
 ·rw[jQ h];by_cases h2:j<k
  ·rw[jP h2,jP (by omega)]
  ·rw[jQ h2,jQ (by omega)]
structure ApX(B:Nat)(w wr:Wd)(r g2 g5 g7 k:Nat)(nmv:Wa)(v:Value)(vn:Nat)(ps:Wv)(s:RdS):Prop where
 rd:RDB B wr r (CV s k)
 z:Blk wr g2 125 auZ
 n:Blk wr g5 121 nmv
 f:AB wr g7 285 3 (OE s k)
 bel:Bw w wr
 own:wr.ownsRow w.heap.size 9 1 v vn ps
theorem JG(b:Wl)(A:Option Addr)(cap:Nat)(w:Wd)(hs:Sn w 1 (.slice A b.length cap) b.length (u8s b))(hb:Bys b)(hl:b.length<=1000000):
  Wc 164 #[.slice A b.length cap] w (AuQ w (auR b).1 (auR b).2):=by
 have K:Hid (auR b=if (aI 1 (b,false)).1≠2 then (au0,false)
  else if (eE (aI 1 (b,false)).2).1.2=false then (au0,false)
  else if iA (CV (eE (aI 1 (b,false)).2).2 3)=false\/1099511627776<pF (eE (aI 1 (b,false)).2).2 0\/999999<pF (eE (aI 1 (b,false)).2).2 1 then (au0,false)
  else (⟨(eE (aI 1 (b,false)).2).1.1,pF (eE (aI 1 (b,false)).2).2 0,pF (eE (aI 1 (b,false)).2).2 1,pF (eE (aI 1 (b,false)).2).2 2⟩,true)):=jz (by unfold auR;rfl)
 obtain⟨Z,hZ⟩:=je (auR b);rw[<- hZ] at K ⊢;clear hZ;have h8:Hid (RdOk (b,false)):=jz ⟨hb,hl⟩;have HS:=jz hs;have a7:=jz (fun(W:Wd) (h:Bw w W)=>r9 (.slice A b.length cap) b W (HS.below h) hl);obtain⟨n,hn⟩:=je b.length;rw[<- hn] at a7 ⊢;clear hs hb hl hn HS;obtain⟨PQ,f9⟩:=je (AuQ w Z.1 Z.2);have h9:=jz f9;rw[<- f9];clear f9;go_enter func164,ntmps164
 go_upto_region 1 with (refine al 125 auZ rfl rfl fC ?_)
 obtain⟨w1,d0⟩:=je (w.alloc (.cells auZ 125));obtain⟨g2,g3⟩:=je w.heap.size;have e0:Hid (Bw w w1):=jz (by rw[d0];exact aH _ _);have h6:Hid (Blk w1 g2 125 auZ):=jz (by rw[d0,g3];exact Blk.new _ _ _);have a0:Hid (w.heap.size<=g2):=jz (by omega);have J:(prog.info? 125).map (·.size)=some auZ.size:=auI;rw[<- d0,<- g3];clear d0 g3;have O:Hid (∀(W:Wd),Z=(au0,false)->Bw w W->PQ (.returned (.tuple #[.agg auZ,.bool false])) W):=jz (λW hz hb=>by
  rw[h9.out,hz]
  exact⟨hb,_,rfl,World.ownsRow_nil _ _ _ _⟩)
 go_wp2_with fail
 refine(a7 w1 e0).mono ?_;rintro e w2 ⟨r,rfl,c9,n1,g0⟩;obtain⟨B,m3⟩:=je w2.heap.size;rw[<- m3] at c9;have q2:=jz c9;have e1:=jz (aA e0 g0);have h7:=jz (h6.keep g0);have HG:Hid (g2≠r/\w.heap.size<=r/\B<=w2.heap.size):=jz ⟨by have:=h6.lt;omega,jm e0.size n1,by omega⟩;have f1:=jz (fR 1 c9 h8 (by omega) (by omega));have c5:=jz (h8.num 1);obtain⟨x1,a9⟩:=je (aI 1 (b,false));rw[<- a9] at f1 c5 K;clear c9 n1 g0 a9 m3 a7;go_wp2_with fail
 refine f1.mono ?_;rintro e w3 ⟨R,m8,rfl⟩;have f3:=jz m8;have e8:=jz (R.blk h7 HG.out.1);have a5:=jz (e1.trans (R.below HG.out.2.1 e1.size));have d5:Hid (B<=w3.heap.size):=jz (jm HG.out.2.2 R.size);obtain⟨c,s1⟩:=x1;simp only at K f3 c5 ⊢;clear R m8 f1 q2 h7 e1;by_cases hc:c≠2
 ·have HZ:Hid (Z=(au0,false)):=jz (by rw[K.out,jP hc]);have t1:¬(c:Int)=2:=by omega
  go_wp2_with (first
   | (refine eQ 125 _ rfl rfl rfl lM ?_)
   | (refine aP 125 (.tmp 2) (.tmp 15) rfl rfl (by rfl) (by rfl) e8 J rfl eZ ?_;intro w9 D I a4 b1))
  refine bodyPost_ret (aC (P:=prog) rfl _ rfl D.range underlying125 rfl (by rw[jk];exact J)) rfl ?_;exact O _ HZ (a5.trans (I.mono a0))
 rw[jQ hc] at K;have t1:(c:Int)=2:=by omega
 have f6:=jz (AG f3 d5 c5);have c6:=jz (uP c5);obtain⟨x2,b0⟩:=je (eE s1);rw[<- b0] at f6 c6 K;clear b0 hc;go_wp2_with fail
 clear t1;refine f6.mono ?_;rintro e w4 ⟨R,m9,v,rfl,d7⟩;have c7:=jz m9;have f0:=jz (R.blk e8 HG.out.1);have h3:=jz (a5.trans (R.below HG.out.2.1 a5.size));have a8:=jz (bI d7 a5.size);have k0:=jz R.size;obtain⟨⟨nm,ok⟩,s2⟩:=x2;simp only at K c7 c6 a8 ⊢;obtain⟨S,hS⟩:=je (cV nm.realm);have q5:=jz hS;rw[<- hS];clear R m9 f6 f3 e8 a5 d7 hS;obtain⟨VA,vc,rfl,_,_⟩:=bO a8.out;obtain⟨U,h2⟩:=je nm.parts.length;have q6:=jz h2;rw[<- h2] at a8 ⊢;clear h2;go_upto_region 5 with fail
 obtain⟨w5,d1⟩:=je (w4.alloc (.cells #[.string S,.slice VA U vc] 121));obtain⟨g5,g8⟩:=je w4.heap.size;have a2:Bw w4 w5:=by rw[d1];exact aH _ _
 have f2:Hid (Blk w5 g5 121 #[.string S,.slice VA U vc]):=jz (by rw[d1,g8];exact Blk.new _ _ _);have f5:=jz (c7.keep a2);have c4:=jz (f0.keep a2);have b7:=jz (aA h3 a2);have k2:=jz (aK a8 a2);have k1:Hid (w3.heap.size<=w5.heap.size):=jz (jm k0 a2.size);have n6:Hid (g5≠r/\g2≠g5):=jz (by have:=c7.lt;have:=f0.lt;exact⟨by omega,by omega⟩);rw[<- d1,<- g8];clear d1 g8 a2 c7 f0 h3 a8;cases ok with
 | false=>
  have HZ:Hid (Z=(au0,false)):=jz (by rw[K.out,jP rfl]);go_wp2_with (first
   | (refine eQ 125 _ rfl rfl rfl lM ?_)
   | (refine aP 125 (.tmp 2) (.tmp 23) rfl rfl (by rfl) (by rfl) c4 J rfl eZ ?_;intro w9 D I a4 b1))
  refine bodyPost_ret (aC (P:=prog) rfl _ rfl D.range underlying125 rfl (by rw[jk];exact J)) rfl ?_;exact O _ HZ (b7.trans (I.mono a0))
 | true=>
  rw[jQ (by decide)] at K;have q7:=b7.size;go_upto_region 8 with (refine al 285 fz3 rfl rfl YU ?_)
  obtain⟨w6,d2⟩:=je (w5.alloc (.cells fz3 285));obtain⟨g7,h0⟩:=je w5.heap.size;have a3:Bw w5 w6:=by rw[d2];exact aH _ _
  have a1:Hid (g7≠r/\g2≠g7/\g5≠g7/\w.heap.size<=g7/\B<=g7):=jz (by have:=f5.lt;have:=c4.lt;have:=f2.lt;have:=d5.out;have:=HG.out.2.2;exact⟨by omega,by omega,by omega,by omega,by
   have h4:w3.heap.size<=w5.heap.size:=k1.out
   omega⟩)
  have m1:Hid (ApX B w w6 r g2 g5 g7 0 #[.string S,.slice VA U vc] (.slice VA U vc) U (fF nm.parts) s2):=jz ⟨f5.keep a3,c4.keep a3,f2.keep a3,by rw[d2,h0];exact Blk.new _ _ _,aA b7 a3,aK k2 a3⟩;rw[<- d2,<- h0];clear d2 h0 a3 f5 c4 f2 b7 k2 q7;go_wp2_with fail
  refine(AU w6).mono ?_;rintro e w7 ⟨rfl,V⟩;have m2:Hid (ApX B w w7 r g2 g5 g7 0 #[.string S,.slice VA U vc] (.slice VA U vc) U (fF nm.parts) s2):=jz (by
   have h:=m1.out
   exact⟨h.rd.keep V,h.z.keep V,h.n.keep V,h.f.keep V,aA h.bel V,aK h.own V⟩)
  clear V m1;unfold sz3;go_wp2_with fail
  go_loopw [25] (λi wr=>∃ k:Nat,k<=3/\i = .int .i64 k/\Hid (ApX B w wr r g2 g5 g7 k #[.string S,.slice VA U vc] (.slice VA U vc) U (fF nm.parts) s2)) (λi _=>3-(intOf i).toNat)
  case atStart=>exact⟨0,by omega,rfl,m2⟩
  case round=>
   clear m2;obtain⟨k,hk,rfl,x⟩:=hrel;rcases jo k 3 with m6|r3
   ·have r6:(k:Int)<3:=by omega
    have r5:(0:Int)<=k:=by omega
    have m5:=λW=>XJ k m6 W
    have a6:=jz (fR (szN k) x.rd (CW c6 k) (by unfold szN;split <;> omega) (by unfold szN;split <;> omega));have f7:Hid ((aI (szN k) (CV s2 k)).1=pF s2 k/\(aI (szN k) (CV s2 k)).2=CV s2 (k+1)):=jz ⟨rfl,rfl⟩;rw[f7.out.1,f7.out.2] at a6;obtain⟨z,hz⟩:=je (szN k);obtain⟨fv,g1⟩:=je (pF s2 k);rw[<- hz] at m5 a6;rw[<- g1] at a6;have h5:=jz g1;clear f7 hz g1;go_wp2_with fail
    refine a6.mono ?_;rintro e w8 ⟨R,n0,rfl⟩;have q3:=jz n0;have q0:=jz (R.blk x.z HG.out.1);have q1:=jz (R.blk x.n n6.out.1);have c3:Hid (AB w8 g7 285 3 (OE s2 k)):=jz (R.blk x.f a1.out.1);have n3:=jz (x.bel.trans (R.below HG.out.2.1 x.bel.size));have k3:=jz (aQ x.own (λb hb=>R.block b (x.own.lt b hb).2 (λe=>cJ x.own x.rd.choose_spec.1.1 (by decide) (by rw[hb,e]))));have f8:=c3.frozen k;have c8:=c3.cell m6;unfold OE at c8;clear R n0 a6 x m5;go_wp2_with fail
    refine⟨⟨k+1,by omega,by go_num,jz ⟨?_,?_,?_,?_,?_,?_⟩⟩,by simp[intOf];omega⟩
    ·exact q3.put (Ne.symm a1.out.1) a1.out.2.2.2.2 _ _
    ·exact q0.far a1.out.2.1 _
    ·exact q1.far a1.out.2.2.1 _
    ·have h:=c3.set k (.int .u64 (fv:Nat));rw[h5.out] at h;exact(by rw[h5.out];exact h.ext (λj _=>SN s2 k j))
    ·exact n3.setCell a1.out.2.2.2.1 _ (p:=⟨g7,_,none⟩)
    ·exact ownsRow_setCell_other k3 (λe=>cJ k3 c3 (by decide) e.symm) _
   ·obtain rfl:k=3:=by omega
    have HD:=jz (wL x.rd);have k4:Hid (pF s2 2<256 ^ 4):=jz (EH (CW c6 2) 4);have c0:wr.cell? ⟨g7,0,none⟩=some (.int .u64 ((pF s2 0:Nat):Int)):=x.f.cell (i:=0) (by omega);have c1:wr.cell? ⟨g7,1,none⟩=some (.int .u64 ((pF s2 1:Nat):Int)):=x.f.cell (i:=1) (by omega);have c2:wr.cell? ⟨g7,2,none⟩=some (.int .u64 ((pF s2 2:Nat):Int)):=x.f.cell (i:=2) (by omega);obtain⟨x0,n2⟩:=je (pF s2 0);obtain⟨x1,a9⟩:=je (pF s2 1);obtain⟨x2,b0⟩:=je (pF s2 2);obtain⟨dn,m4⟩:=je (iA (CV s2 3));rw[<- n2] at c0 K;rw[<- a9] at c1 K;rw[<- b0] at c2 K k4;rw[<- m4] at HD K;clear n2 a9 b0 m4;have q4:Hid (wr.rangeAt g5 0 [.string S,.slice VA U vc]):=jz x.n.range;cases dn with
    | false=>
     go_wp2_with fail
     refine HD.mono ?_;rintro e w9 ⟨rfl,rfl⟩;clear HD;have HZ:Hid (Z=(au0,false)):=jz (by rw[K.out,jP (.inl (by simp))]);go_wp2_with (first
      | (refine eQ 125 _ rfl rfl rfl lM ?_)
      | (refine aP 125 (.tmp 2) (.tmp 48) rfl rfl (by rfl) (by rfl) x.z J rfl eZ ?_;intro w9 D I a4 b1))
     refine bodyPost_ret (aC (P:=prog) rfl _ rfl D.range underlying125 rfl (by rw[jk];exact J)) rfl ?_;exact O _ HZ (x.bel.trans (I.mono a0))
    | true=>
     go_wp2_with fail
     refine HD.mono ?_;rintro e w9 ⟨rfl,rfl⟩;clear HD;by_cases hmx:1099511627776<x0
     ·have t1:(1099511627776:Int)<x0:=by omega
      have HZ:Hid (Z=(au0,false)):=jz (by rw[K.out,jP (.inr (.inl hmx))]);go_wp2_with (first
       | (refine eQ 125 _ rfl rfl rfl lM ?_)
       | (refine aP 125 (.tmp 2) (.tmp 48) rfl rfl (by rfl) (by rfl) x.z J rfl eZ ?_;intro w9 D I a4 b1))
      refine bodyPost_ret (aC (P:=prog) rfl _ rfl D.range underlying125 rfl (by rw[jk];exact J)) rfl ?_;exact O _ HZ (x.bel.trans (I.mono a0))
     have t1:¬(1099511627776:Int)<x0:=by omega
     by_cases hmi:999999<x1
     ·have t2:(999999:Int)<x1:=by omega
      have HZ:Hid (Z=(au0,false)):=jz (by rw[K.out,jP (.inr (.inr hmi))]);go_wp2_with (first
       | (refine eQ 125 _ rfl rfl rfl lM ?_)
       | (refine aP 125 (.tmp 2) (.tmp 48) rfl rfl (by rfl) (by rfl) x.z J rfl eZ ?_;intro w9 D I a4 b1))
      refine bodyPost_ret (aC (P:=prog) rfl _ rfl D.range underlying125 rfl (by rw[jk];exact J)) rfl ?_;exact O _ HZ (x.bel.trans (I.mono a0))
     have t2:¬(999999:Int)<x1:=by omega
     rw[jQ (λh=>by
      rcases h with h|h|h
      ·cases h
      ·exact hmx h
      ·exact hmi h)] at K
     have n4:=jz (SL S (.slice VA U vc) (x0:Nat) (x1:Nat) (x2:Nat));have r0:=CR x0 (by omega);have r1:=FT x1 (by omega);have r2:=FT x2 (by have:=k4.out;omega);go_upto_region 15 with fail
     clear t1 t2;go_wp2_with (first
      | (show wpList _ _ _ (_ :: _ :: _ :: []) _ _;refine Z1 ?_)
      | (refine ld 121 (.tmp 5) rfl rfl (by rfl) q4 underlying121 rfl n9 ?_))
     unfold Stp;refine eQ 125 _ rfl rfl rfl n4 ?_;refine aP 125 (.tmp 2) (.tmp 59) rfl rfl (by rfl) (by rfl) (cells:=#[.string S,.slice VA U vc,.int .i64 (x0:Nat),.int .u32 (x1:Nat),.int .u32 (x2:Nat)]) x.z auI rfl (by rw[List.all_toArray];rfl) ?_;intro w9 D I a4 b1;go_wp2_with fail
     refine bodyPost_ret (aC (P:=prog) rfl _ rfl D.range underlying125 rfl auI) rfl ?_;rw[h9.out,K.out];refine⟨x.bel.trans (I.mono a0),.slice VA U vc,?_,?_⟩
     ·unfold auC;rw[q5.out];rfl
     ·have h:=aQ x.own (λb hb=>a4 b (λe=>cJ x.own x.z (by decide) (by rw[hb,e])));show w9.ownsRow _ _ 1 (.slice VA U vc) nm.parts.length _;rw[<- q6.out];exact h
def oG(d:Bs):Wl:=d.map λb=>(b.toNat:Int)
theorem AV(d:Bs):Lib.byteCells d=u8s (oG d):=by simp[Lib.byteCells,u8s,oG]
theorem jX(d:Bs):(oG d).length=d.length:=by simp[oG]
theorem AW(d:Bs):Bys (oG d):=λb hb=>by
 obtain⟨x,_,rfl⟩:=List.mem_map.1 hb;have:=x.toNat_lt;omega
structure ConfD where
 key:Nat->Nat
 skew:Int
 sec:Int
def aY(c:ConfD):Wv:=arr 16 (c8 c.key)++[.int .i64 c.skew,.int .i64 c.sec]
def fV(c:ConfD):Bool:=decide (1<=c.skew) && (decide (c.skew<=1073741824) && (decide (2<=c.sec) && decide (c.sec<=4096)))
abbrev eK:=VS->Wl->(Int×Wl)×VS
def z32L:Wl:=List.replicate 32 0
def k9(V:eK)(skew:Int)(s:VS)(o:OpD):(Int×Wl)×VS:=
 if o.kind=1 then ((0,z32L),tH s o.n)
 else if o.kind=2 then ((cR (iU skew s).1,z32L),(iU skew s).2)
 else if o.kind=3 then V s (oG o.data)
 else if o.kind=4 then ((cR (mD s).1,z32L),(mD s).2)
 else if o.kind=5 then ((0,z32L),⟨planF s.d o.n,s.now,s.co⟩)
 else ((0,z32L),⟨if o.n=0 then iX s.d o.cuts else planC s.d o.n o.cuts,s.now,s.co⟩)
def oH(V:eK)(skew:Int)(s:VS)(o:OpD):RowD:=⟨o.kind,(k9 V skew s o).1.1,(k9 V skew s o).2.now,(gA (k9 V skew s o).2).length,(k9 V skew s o).1.2⟩
def gU(V:eK)(skew:Int)(s:VS)(o:OpD):VS:=aN (k9 V skew s o).2
def oI(V:eK)(skew:Int)(s:VS)(l:List OpD):VS:=l.foldl (gU V skew) s
def fI(V:eK)(skew:Int):VS->List OpD->List RowD
 | _,[]=>[]
 | s,o :: l=>oH V skew s o :: fI V skew (gU V skew s o) l
theorem rJ(V:eK)(skew:Int):∀(s:VS) (l m:List OpD),fI V skew s (l++m)=fI V skew s l++fI V skew (oI V skew s l) m
 | s,[],m=>rfl
 | s,o :: l,m=>by
  show oH V skew s o :: fI V skew (gU V skew s o) (l++m)=_;rw[rJ V skew (gU V skew s o) l m];rfl
theorem JH(V:eK)(skew:Int)(s:VS)(l:List OpD)(k:Nat)(h:k<l.length):fI V skew s (l.take (k+1))=fI V skew s (l.take k)++[oH V skew (oI V skew s (l.take k)) l[k]]:=by
 rw[j6 h,rJ];rfl
theorem FU(V:eK)(skew:Int)(s:VS)(l:List OpD)(k:Nat)(h:k<l.length):oI V skew s (l.take (k+1))=gU V skew (oI V skew s (l.take k)) l[k]:=by
 unfold oI;rw[j6 h,List.foldl_append];rfl
theorem nC(V:eK)(skew:Int):∀(s:VS) (l:List OpD),(fI V skew s l).length=l.length
 | _,[]=>rfl
 | s,o :: l=>by
  show(fI V skew (gU V skew s o) l).length+1=_;rw[nC V skew (gU V skew s o) l];rfl
def oJ(l:List OpD):Option Nat:=l.findIdx? λo=>!aD o
def dA(V:eK)(c:ConfD)(l:List OpD):Ans×List RowD:=
 if fV c=false then (some (15,none),[]) else match oJ l with
 | some i=>(some (16,some (i:Int)),[])
 | none=>(none,fI V c.skew ⟨eV c.sec.toNat,0,none⟩ l)
section
variable {w0 w w' : Wd} {gv g9 k N : Nat} {key : Nat -> Nat} {skew : Int} {s : VS} {X : Nat -> Prop}
theorem VE.off{g:Nat}(h:VE w0 w gv g9 k N key skew s X)(x:Off g w w')(hg:X g)(K:w0.heap.size<=g):VE w0 w' gv g9 k N key skew s X:=by
 obtain⟨m,cv,F,h1,j,J⟩:=h;have D:=(J g hg).1;have I:gv≠g:=λe=>D.2 (e ▸ List.mem_cons_self ..)
 exact⟨m,cv,F,h1,⟨⟨j.st.dk.offO x D.1,j.st.ft,j.st.bel.trans (x.below K j.st.bel.size)⟩,x.blk j.blk I,j.co.off x ⟨D.1,λO=>D.2 (List.mem_cons.2 (.inr O))⟩,j.far,j.lo,j.now,j.skew,j.len,j.few,j.rm⟩,λb hb=>⟨(J b hb).1,jp (J b hb).2 x.size⟩⟩
theorem VE.drew(h:VE w0 w gv g9 k N key skew s X):VE w0 w.drew gv g9 k N key skew s X:=h.keep (ji _ _).drew
theorem VE.now(h:VE w0 w gv g9 k N key skew s X):0<=s.now/\s.now<=1099511627776:=by
 obtain⟨m,cv,F,_,j,_⟩:=h;exact j.now
theorem VE.lo(h:VE w0 w gv g9 k N key skew s X):w0.heap.size<=w.heap.size:=h.bel.size
theorem YV(n:Int)(x:aE n)(h:VE w0 w gv g9 k N key skew s X):Wc 68 #[.pointer (some ⟨gv,0,none⟩),.int .i64 n] w λe w'=>e = .returned (.int .i64 (tG s.now n))/\VE w0 w' gv g9 k N key skew (tH s n) X/\XT X w w':=by
 obtain⟨m,cv,F,hg,D,I⟩:=h;refine(YR n x D).mono ?_;rintro e w' ⟨rfl,cv',F',h1,j⟩;exact⟨rfl,VE.of I hg h1 j⟩
theorem Z6(h:VE w0 w gv g9 k N key skew s X):Wc 47 #[.pointer (some ⟨gv,0,none⟩)] w λe w'=>e = .returned (.int .i64 s.now)/\VE w0 w' gv g9 k N key skew (aN s) X/\XT X w w':=by
 obtain⟨m,cv,F,hg,x,D⟩:=h;refine(Z4 x).mono ?_;rintro e w' ⟨rfl,cv',F',h1,j⟩;exact⟨rfl,VE.of D hg h1 j⟩
theorem YW(I:k<=60)(h:VE w0 w gv g9 k N key skew s X):Wc 48 #[.pointer (some ⟨gv,0,none⟩)] w λe w'=>∃ A c,e = .returned (.slice A (gA s).length c)/\Sn w' 33 (.slice A (gA s).length c) (gA s).length ((gA s).flatMap aO)/\VE w0 w' gv g9 k N key skew (aN s) X/\XT X w w':=by
 obtain⟨m,cv,F,hg,x,D⟩:=h;refine(YT x (by omega)).mono ?_;rintro e w' ⟨v,rfl,hs,cv',F',h1,j⟩;obtain⟨A,c,rfl,_⟩:=id hs;exact⟨A,c,rfl,hs,VE.of D hg h1 j⟩
theorem YX(I:k<=60)(h:VE w0 w gv g9 k N key skew s X):Wc 69 #[.pointer (some ⟨gv,0,none⟩)] w λe w'=>e = .returned (bM (iU skew s).1)/\VE w0 w' gv g9 (k+1) N key skew (iU skew s).2 X/\XT X w w':=by
 obtain⟨m,cv,F,hg,x,D⟩:=h;refine(YS x (by omega)).mono ?_;rintro e w' ⟨rfl,m',cv',F',h1,j⟩;exact⟨rfl,VE.of D hg h1 j⟩
theorem OF(x:k<=60)(h:VE w0 w gv g9 k N key skew s X):Wc 73 #[.pointer (some ⟨gv,0,none⟩)] w λe w'=>e = .returned (bM (mD s).1)/\VE w0 w' gv g9 (k+1) N key skew (mD s).2 X/\XT X w w':=by
 obtain⟨m,cv,F,hg,D,I⟩:=h;refine(OD D x).mono ?_;rintro e w' ⟨rfl,m',cv',F',h1,j⟩;exact⟨rfl,VE.of I hg h1 j⟩
theorem YY(n:Int)(I:n<=1000000000)(K:k<=60)(h:VE w0 w gv g9 k N key skew s X):Wc 74 #[.pointer (some ⟨g9,0,none⟩),.int .i64 n] w λe w'=>e = .returned (.tuple #[])/\VE w0 w' gv g9 (k+1) N key skew ⟨planF s.d n,s.now,s.co⟩ X/\XT X w w':=by
 obtain⟨m,cv,F,rfl,j,J⟩:=h;have O:=j.rm;have hb:=(LC s.d n []).1;refine(MC n w m s.d j.st.dk I (by omega)).mono ?_;rintro e w' ⟨rfl,m',h1,D⟩;have x:=j.disk (k':=k+1) h1 D hb.2 (by omega) (by omega);exact⟨rfl,VE.of J rfl x.1 x.2⟩
theorem OG(n:Int)(x:Value)(cl:Wl)(hs:Sn w 1 x cl.length (lV cl))(O:cl.length<=100000)(J:n<=1000000000)(R:k<=60)(h:VE w0 w gv g9 k N key skew s X):Wc 76 #[.pointer (some ⟨g9,0,none⟩),.int .i64 n,x] w λe w'=>e = .returned (.tuple #[])/\VE w0 w' gv g9 (k+1) N key skew ⟨planC s.d n cl,s.now,s.co⟩ X/\XT X w w':=by
 obtain⟨m,cv,F,rfl,j,K⟩:=h;have U:=j.rm;have hb:=(LC s.d n cl).2;refine(BN n x cl w m s.d j.st.dk hs (by omega) J (by omega)).mono ?_;rintro e w' ⟨rfl,m',h1,I⟩;have D:=j.disk (k':=k+1) h1 I hb.2 (by omega) (by omega);exact⟨rfl,VE.of K rfl D.1 D.2⟩
theorem WC(cl:Wl)(A:Option Addr)(c:Nat)(hs:Sn w 1 (.slice A cl.length c) cl.length (lV cl))(J:cl.length<=100000)(K:k<=60)(h:VE w0 w gv g9 k N key skew s X):Wc 75 #[.pointer (some ⟨g9,0,none⟩),.slice A cl.length c] w λe w'=>e = .returned (.tuple #[])/\VE w0 w' gv g9 (k+1) N key skew ⟨iX s.d cl,s.now,s.co⟩ X/\XT X w w':=by
 obtain⟨m,cv,F,rfl,j,I⟩:=h;have O:=j.rm;refine(pT cl A c w m s.d j.st.dk hs (by omega)).mono ?_;rintro e w' ⟨rfl,m',h1,D⟩;have x:=j.disk (k':=k+1) h1 D (kJ _ _ _) (by show s.d.room<=_;omega) (by omega);exact⟨rfl,VE.of I rfl x.1 x.2⟩
end
def fA(key:Nat->Nat)(g9 gv:Nat):Wa:=(arr 16 (c8 key)++[Value.pointer (some ⟨g9,0,none⟩),Value.pointer (some ⟨gv,0,none⟩)]).toArray
theorem dV{w:Wd}{gm g9 gv:Nat}{key:Nat->Nat}(h:Blk w gm 106 (fA key g9 gv)):w.cell? ⟨gm,16,none⟩=some (.pointer (some ⟨g9,0,none⟩))/\w.cell? ⟨gm,17,none⟩=some (.pointer (some ⟨gv,0,none⟩))/\w.rangeAt gm 0 (arr 16 (c8 key)):=by
 have h1:∀ j,(fA key g9 gv)[16+j]? = [Value.pointer (some ⟨g9,0,none⟩),.pointer (some ⟨gv,0,none⟩)][j]?:=λj=>by
  unfold fA;rw[jf,jx (by rw[aB];omega),aB,Nat.add_sub_cancel_left]
 refine⟨(h.cell 16).trans (h1 0),(h.cell 17).trans (h1 1),λj u x=>?_⟩;have I:j<16:=by
  have:=(List.getElem?_eq_some_iff.1 x).1
  rwa [aB] at this
 have D:=h.cell j;rw[Nat.zero_add,D];unfold fA;rw[jf,jy (by rw[aB];exact I),x]
theorem d9{P:Program}{w:Wd}{fn:Func}{p u:Tmp}{ty:TypeId}(h:fn.results=#[.tmp u,.cell p ty])(tmps:Wa){b off:Nat}{cs:Wv}{d:TypeDesc}(x:tmps.getD p undef = .pointer (some ⟨b,off,none⟩))(j:w.rangeAt b off cs)
  (D:P.underlying ty=some d) (hd:d.isRow=true) (hi:(P.info? ty).map (·.size)=some cs.length):(results fn tmps).run P w = .ok (.tuple #[tmps.getD u undef,.agg cs.toArray]) w:=by
 have h1:tmps[p]?.getD undef = .pointer (some ⟨b,off,none⟩):=by simpa using x
 simp[results,h,h1,asAddr,Sem.run_bind,Result.andThen,run_loadVar_mid w b off ty cs d j D hd hi]
end
section
open Go.RowKit
attribute [local irreducible] wpQuiet wpAnyH
structure PRow(w:Wd)(base:Nat)(v:Value)(ps:List (Value×List Nat)):Prop where
 row:w.ownsRow base 68 1 v ps.length (ps.map (·.1))
 part:∀ p∈ps,w.ownsRow base 5 1 p.1 p.2.length (n8 p.2)
theorem PRow.below{w w':Wd}{base:Nat}{v:Value}{ps:List (Value×List Nat)}(h:PRow w base v ps)(hb:Bw w w'):PRow w' base v ps:=
 ⟨aK h.row hb,λp j=>aK (h.part p j) hb⟩
theorem PRow.one{w:Wd}{base:Nat}{v:Value}{ps:List (Value×List Nat)}(h:PRow w base v ps):∀ u∈ps.map (·.1),u.oneCell'=true:=λu x=>by
 obtain⟨p,j,rfl⟩:=List.mem_map.1 x;exact eU (h.part p j)
theorem PRow.parts{w:Wd}{base:Nat}{v:Value}{ps:List (Value×List Nat)}(h:PRow w base v ps):Parts w v (ps.map λp=>(p.1,cY p.2)):=by
 refine⟨?_,λp j=>?_⟩
 ·rw[List.length_map,List.map_map];exact Sn.own h.row
 ·obtain⟨q,x,rfl⟩:=List.mem_map.1 j;have:=Sn.own (h.part q x);simp only[aV];rw[<- fK];exact this
theorem FV(ps:List (Value×List Nat)):cat (ps.map λp=>(p.1,cY p.2))=cY (ps.flatMap (·.2)):=by
 unfold cat;induction ps with
 | nil=>rfl
 | cons p ps ih=>
  rw[List.map_cons,List.flatMap_cons,ih,List.flatMap_cons];unfold cY;rw[List.map_append]
theorem yB(ps:List (Value×List Nat)):eB (ps.map λp=>(p.1,cY p.2))=(ps.flatMap (·.2)).length:=by
 rw[<- pP,FV,aV]
theorem WD(p:Bs):bn (cV p)=p.map (·.toNat):=rfl
structure NbX(w wr:Wd)(n:Nm)(g1 k:Nat)(nmv:Wa)(v:Value)(ps:List (Value×List Nat)):Prop where
 z:Blk wr g1 121 nmv
 bel:Bw w wr
 row:PRow wr w.heap.size v ps
 len:ps.length=k+2
 eq:ps.flatMap (·.2)=lT n.realm++n.parts.length :: (n.parts.take k).flatMap lT
theorem JI(n:Nm)(A:Option Addr)(cap:Nat)(w:Wd)(hn:NmOk n)(hs:Sn w 1 (.slice A n.parts.length cap) n.parts.length (fF n.parts)):
  Wc 166 #[.agg #[.string (cV n.realm),.slice A n.parts.length cap]] w λe w'=>∃ y,e = .returned (.tuple #[y,.bool true])/\w'.ownsRow w.heap.size 5 1 y (nmN n).length (n8 (nmN n))/\Bw w w':=by
 have HN:=jz hn;have HS:=jz hs;have HL:=jz (iC hn.realm);have HV:=jz (fun(W:Wd) (h:Bw w W)=>x6 n A cap W hn (hs.below h));have f8:Hid (∀(p:Bs),eR p=true->∀(W:Wd) (v:Value),Sn W 1 v p.length (n8 (p.map (·.toNat)))->∀ l,l=p.length+1->Wc 225 #[.int .i64 1,v] W λe w'=>∃ y,e = .returned (.tuple #[y,.bool true])/\w'.ownsRow W.heap.size 5 1 y l (n8 (lT p))/\Bw W w'):=jz (λp hp W v h l hl=>by
  subst hl
  have h1:=SF (p.map (·.toNat)) v W (by rw[List.length_map];exact h) (by rw[List.length_map];have:=iC hp;omega)
  rw[List.length_map] at h1
  exact h1)
 have f2:Hid (∀(p:Bs),eR p=true->∀ W:Wd,∃ v w',(convert 9 68 (.string (cV p))).run prog W = .ok v w'/\Sn w' 1 v p.length (n8 (p.map (·.toNat)))/\Bw W w'):=jz (λp hp W=>by
  have h1:=D9 (cV p) W (by rw[AD];have:=iC hp;omega)
  rw[WD,List.length_map] at h1
  exact h1)
 obtain⟨S,hS⟩:=je (cV n.realm);have hf:=hn.few;obtain⟨m,hm⟩:=je n.parts.length;have f1:Hid (∀ W:Wd,∃ v w',(convert 9 68 (.string S)).run prog W = .ok v w'/\Sn w' 1 v n.realm.length (n8 (n.realm.map (·.toNat)))/\Bw W w'):=jz (λW=>by
  have h:=f2.out n.realm hn.realm W
  rw[<- hS] at h
  exact h)
 rw[<- hS] at HV ⊢;rw[<- hm] at hf HS HV ⊢;have HM:=jz hm;have HI:Hid ((prog.info? 121).map (·.size)=some [Value.string S,.slice A m cap].length):=jz n9;clear hn hs hS hm;obtain⟨g1,d1⟩:=je w.heap.size;obtain⟨w1,a6⟩:=je (w.alloc (.cells #[.string S,.slice A m cap] 121));have a8:Hid (Bw w w1):=jz (by rw[a6];exact aH _ _);have b7:Hid (Blk w1 g1 121 #[.string S,.slice A m cap]):=jz (by rw[a6,d1];exact Blk.new _ _ _);go_enter func166,ntmps166
 go_upto_region 1 with fail
 rw[<- a6,<- d1];clear a6 d1;have f7:Hid (w1.rangeAt g1 0 [.string S,.slice A m cap]):=jz b7.range;go_wp2_with (refine ld 121 (.tmp 1) rfl rfl (by rfl) f7 underlying121 rfl HI ?_)
 refine(HV w1 a8).mono ?_;rintro e w2 ⟨rfl,c7⟩;have c2:=jz (b7.keep c7);have f0:=jz (aA a8 c7);clear c7 b7 a8 f7;have c0:=c2.cell 0;simp only[jf,jg] at c0;obtain⟨cv,w3,U,O,c9⟩:=f1.out w2;obtain⟨CA,cc,rfl,_⟩:=id O;obtain⟨ly,e0⟩:=je (n.realm.length+1);have h6:=jz e0;have D:=jz (f8 n.realm HN.realm w3 _ O ly e0);clear e0;have f5:=jz (c2.keep c9);have a9:=jz (aA f0 c9);clear O c9 c2 f0 f1;go_wp2_with fail
 clear U c0;refine D.mono ?_;rintro e w4 ⟨y,rfl,x,d0⟩;obtain⟨YA,yc,rfl,_,_⟩:=bO x;have g0:=jz (bI x a9.size);have c3:=jz (f5.keep d0);have b0:=jz (aA a9 d0);clear x d0 D f5 a9;have c1:=c3.cell 1;simp only[jf,jh,jg] at c1;have U:=LG m (by omega);have c5:=jz (lG 1 m w4 (by omega) (by omega) (by omega));have e1:((1:Nat):Int)=1:=rfl;rw[e1] at c5;clear e1;go_wp2_with fail
 clear U c1;refine c5.mono ?_;rintro e w5 ⟨z,rfl,e8,a3⟩;obtain⟨ZA,zc,rfl,_,_⟩:=bO e8;have h0:=jz (bI e8 b0.size);have g2:=jz (aK g0 a3);have f6:=jz (c3.keep a3);have b1:=jz (aA b0 a3);clear e8 a3 c5 g0 c3 b0;go_upto_region 6 with fail
 obtain⟨w6,a7⟩:=je (w5.alloc (.cells #[.slice YA ly yc,.slice ZA 1 zc] 68));obtain⟨g8,d2⟩:=je w5.heap.size;have a0:Bw w5 w6:=by rw[a7];exact aH _ _
 have h3:u8s (beB 1 m)=n8 [m]:=by
  have h1:beB 1 m=[((m % 256:Nat):Int)]:=by unfold beB;simp[beB]
  rw[h1,Nat.mod_eq_of_lt (by omega)];rfl
 have c6:Hid (NbX w w6 n g1 0 #[.string S,.slice A m cap] (.slice (some ⟨g8,0,none⟩) 2 2) [(.slice YA ly yc,lT n.realm),(.slice ZA 1 zc,[m])]):=jz (by
  refine⟨f6.keep a0,aA b1 a0,⟨?_,λp hp=>?_⟩,rfl,?_⟩
  ·have h:=SE w5 #[.slice YA ly yc,.slice ZA 1 zc] 68 1 2 w.heap.size g8 b1.size rfl (by unfold maxLen;omega) d2.symm
   rw[<- a7] at h
   exact h
  ·simp only[jl,j8,or_false] at hp
   rcases hp with rfl|rfl
   ·have h:=aK g2 a0
    have hl:(lT n.realm).length=ly:=by rw[h6.out];unfold lT;rw[List.length_cons,List.length_map]
    simp only[hl]
    exact h
   ·have h:=aK h0 a0
    rw[h3] at h
    exact h
  ·simp only[List.flatMap_cons,List.flatMap_nil,List.append_nil,List.take_zero]
   rw[<- HM.out])
 rw[<- a7,<- d2];clear a7 d2 a0 g2 h0 f6 b1 h3;have c1:=c6.z.cell 1;simp only[jf,jh,jg] at c1;go_wp2_with fail
 clear c1;go_loopw [37,8] (λi v0 wr=>∃(k:Nat) (v:Value) (ps:List (Value×List Nat)),v=v0/\k<=m/\i = .int .i64 k/\Hid (NbX w wr n g1 k #[.string S,.slice A m cap] v ps)) (λi _ _=>m-(intOf i).toNat)
 case atStart=>exact⟨0,_,_,rfl,j0 _,rfl,c6⟩
 case round=>
  clear c6;obtain⟨k,v,ps,rfl,hk,rfl,Z⟩:=hrel;rcases jo k m with k1|k4
  ·have d5:k<n.parts.length:=by rw[<- HM.out];exact k1
   obtain⟨b,off,rfl,hc⟩:=LH (w:=wr) (A:=A) (cap:=cap) (by rw[<- HM.out];exact HS.below Z.bel) k d5;have a2:=HN.parts _ (List.getElem_mem d5);have f9:Hid ((n.parts.take (k+1)).flatMap lT=(n.parts.take k).flatMap lT++lT n.parts[k]):=jz (by rw[j6 d5,List.flatMap_append];simp);obtain⟨p,hp⟩:=je (n.parts[k]);rw[<- hp] at hc a2 f9;have k2:=jz a2;obtain⟨T,hT⟩:=je (cV p);obtain⟨cv,w7,U,O,K⟩:=f2.out p a2 wr;rw[<- hT] at hc U;obtain⟨CA,cc,rfl,_⟩:=id O;obtain⟨lp,d7⟩:=je (p.length+1);have h5:=jz d7;have D:=jz (f8 p a2 w7 _ O lp d7);clear d7;have J:Hid (NbX w w7 n g1 k #[.string S,.slice (some ⟨b,off,none⟩) m cap] v ps):=jz ⟨Z.z.keep K,aA Z.bel K,Z.row.below K,Z.len,Z.eq⟩;have m1:(0:Int)<=k:=by omega
   have m2:(k:Int)<m:=by omega
   clear hp a2 hT O K Z;go_wp2_with fail
   clear U hc;refine D.mono ?_;rintro e w8 ⟨y,rfl,x,a4⟩;obtain⟨R,V,rfl,_,_⟩:=bO x;have I:Hid (NbX w w8 n g1 k #[.string S,.slice (some ⟨b,off,none⟩) m cap] v ps):=jz ⟨J.z.keep a4,aA J.bel a4,J.row.below a4,J.len,J.eq⟩;have g3:=jz (bI x J.bel.size);clear x a4 D J;obtain⟨VA,vc,hv,_,_⟩:=bO I.row.row;subst hv;have a1:Bw w8 (w8.alloc (.cells #[.slice R lp V] 68)):=aH _ _;have j:Hid (NbX w (w8.alloc (.cells #[.slice R lp V] 68)) n g1 k #[.string S,.slice (some ⟨b,off,none⟩) m cap] (.slice VA ps.length vc) ps):=jz ⟨I.z.keep a1,aA I.bel a1,I.row.below a1,I.len,I.eq⟩;have h9:=jz (aK g3 a1);have c4:Hid (k<=8/\ps.length=k+2):=jz ⟨by omega,I.len⟩;clear a1 I g3;have h2:∀ u∈(#[.slice R lp V]:Wa).toList,u.oneCell'=true:=λu hu=>by simp at hu;rw[hu];rfl
   go_wp2_with (refine app PZ (.tmp 47) (.tmp 49) rfl rfl (by rfl) j.row.row (by rfl) (Sn.new w8 #[.slice R lp V] 68 1 1 rfl) h2 (by have:=c4.out;unfold maxLen;omega) (by have:=c4.out;omega) j.bel.size ?_;intro v2 wA k0 a5 k3)
   have e:ps.length+1=(ps++[(Value.slice R lp V,lT p)]).length:=by rw[jj];rfl
   refine⟨⟨k+1,v2,ps++[(.slice R lp V,lT p)],rfl,by omega,by go_num,jz ⟨?_,?_,⟨?_,λq hq=>?_⟩,?_,?_⟩⟩,by simp[intOf];omega⟩
   ·exact k5 a5 j.row.row j.z (by decide)
   ·exact j.bel.grown a5 j.bel.size (λb hb=>(j.row.row.lt b hb).1)
   ·rw[<- e,List.map_append];exact k0
   ·rcases List.mem_append.1 hq with h1|h1
    ·exact xZ a5 j.row.row (j.row.part q h1) (by decide)
    ·simp only[jl,j8,or_false] at h1;subst h1;have hl:(lT p).length=lp:=by rw[h5.out];unfold lT;rw[List.length_cons,List.length_map]
     have h:=xZ a5 j.row.row h9 (by decide);simp only[hl];exact h
   ·rw[jj,c4.out.2];rfl
   ·rw[List.flatMap_append,j.eq,f9.out];simp
  ·obtain rfl:k=m:=by omega
   have hP:=Z.row.parts;have f3:Hid (ps.flatMap (·.2)=nmN n):=jz (by
    rw[Z.eq,List.take_of_length_le (by rw[<- HM.out];exact ja _)]
    rfl)
   have h7:=jz (CB HN);have HJ:=jz (lX _ _ wr hP (by rw[List.length_map,Z.len];omega) (by rw[yB,f3.out];have:=h7.out;omega));rw[yB,FV,f3.out,<- fK] at HJ;have HB:=jz Z.bel;clear hP Z;go_wp2_with fail
   refine HJ.mono ?_;rintro e w7 ⟨y,rfl,x,K⟩;have h8:=jz (bI x HB.size);have h4:=jz (aA HB K);clear x K HJ;go_wp2_with fail
   first|go_ret2|skip
   exact⟨y,rfl,h8,h4⟩
def TkR(w:Wd)(r:TkD×Int)(e:Ending)(w':Wd):Prop:=Bw w w'/\∃ v,e = .returned (.tuple #[.agg (tkC r.1 v).toArray,.int .i64 r.2])/\w'.ownsRow w.heap.size 9 1 v r.1.client.parts.length (fF r.1.client.parts)
def AuR(w:Wd)(r:AuD×Int)(e:Ending)(w':Wd):Prop:=Bw w w'/\∃ v,e = .returned (.tuple #[.agg (auC r.1 v).toArray,.int .i64 r.2])/\w'.ownsRow w.heap.size 9 1 v r.1.client.parts.length (fF r.1.client.parts)
theorem rK{t:TkD}{v:Value}(j:v.oneCell'=true):(prog.info? 123).map (·.size)=some (tkC t v).toArray.size/\tkZ.size=(tkC t v).toArray.size/\(tkC t v).toArray.all (·.oneCell')=true/\(prog.info? 123).map (·.size)=some (tkC t v).length:=
 ⟨by rw[js,iH];exact tkI,by rw[bK,js,iH],all_oneCell_toArray (uS j),by rw[iH];exact tkI⟩
theorem yC{t:AuD}{v:Value}(j:v.oneCell'=true):(prog.info? 125).map (·.size)=some (auC t v).toArray.size/\auZ.size=(auC t v).toArray.size/\(auC t v).toArray.all (·.oneCell')=true/\(prog.info? 125).map (·.size)=some (auC t v).length:=
 ⟨auI,rfl,all_oneCell_toArray (CU j),auI⟩
theorem tJ:(prog.info? 123).map (·.size)=some tkZ.size:=by rw[bK];exact tkI
theorem tK:(prog.info? 125).map (·.size)=some auZ.size:=auI
theorem OH(key:Nat->Nat)(s:Wl)(v:Value)(w:Wd)(a6:bG key)(hk:TabK w)(hs:Sn w 1 v s.length (u8s s))(hb:Bys s)(hl:s.length<=1000000):
  Wc 110 #[.agg (arr 16 (c8 key)).toArray,v] w (TkR w (tkO key s)):=by
 have HQ:Hid (tkO key s=match mT key 2 (mU s) with
  | none=>(tk0,2)
  | some b=>if (tkR (cY b)).2 then ((tkR (cY b)).1,0) else (tk0,1)):=jz (by unfold tkO;rfl)
 obtain⟨Z,hZ⟩:=je (tkO key s);rw[<- hZ] at HQ ⊢;clear hZ;have c9:=mB hb;have b1:=jz (fun(W:Wd) (hW:Bw w W)=>FI key 2 (mU s) v W a6 (by decide) (hk.below hW) c9 (by rw[dR,<- rB hb];exact hs.below hW) (by rw[dR];exact hl));have a9:Hid (∀ b,mT key 2 (mU s)=some b->Byn b/\b.length<=1000000):=jz (λb h=>by
  have:=rI c9 h
  rw[dR] at this
  exact⟨this.1,by omega⟩)
 obtain⟨o,ho⟩:=je (mT key 2 (mU s));rw[<- ho] at HQ b1 a9;obtain⟨PQ,c5⟩:=je (TkR w Z);have b0:=jz c5;rw[<- c5];have d7:Hid ((prog.info? 35).map (·.size)=some (arr 16 (c8 key)).length):=jz (by rw[aB];kernel_rfl);obtain⟨w1,J⟩:=je (w.alloc (.cells (arr 16 (c8 key)).toArray 35));have e0:Hid (w1.rangeAt w.heap.size 0 (arr 16 (c8 key))):=jz (by rw[J];exact(AB.new w _ 16 _).range);have d1:Hid (Bw w w1):=jz (by rw[J];exact aH _ _);have f5:w1.heap.size=w.heap.size+1:=by rw[J];simp
 have e8:=jz f5;obtain⟨K,hK⟩:=je ((arr 16 (c8 key)).toArray);rw[<- hK] at J ⊢;clear c5 hK hs hb hl a6 hk c9 ho f5;go_enter func110,ntmps110
 go_upto_region 1 with (refine al 123 tkZ rfl rfl eT ?_)
 rw[<- J];clear J;obtain⟨w2,a5⟩:=je (w1.alloc (.cells tkZ 123));obtain⟨g4,a4⟩:=je (w.heap.size+1);have c6:Bw w1 w2:=by rw[a5];exact aH _ _
 have b7:Hid (Blk w2 g4 123 tkZ):=jz (by rw[a5,a4,<- e8.out];exact Blk.new _ _ _);have a7:=jz (aA d1 c6);have a8:Hid (w.heap.size<=g4):=jz (by rw[a4];omega);have e1:Hid (w2.rangeAt w.heap.size 0 (arr 16 (c8 key))):=jz (λj u hj=>j9 c6 (e0 j u hj));rw[<- a5];rw[<- a4];clear a5 a4 c6 e8 e0 d1;go_wp2_with (refine ld 35 (.tmp 2) rfl rfl (by rfl) e1 underlying35 rfl d7 ?_)
 refine(b1 w2 a7).mono ?_;clear b1 d7 e1;cases o with
 | none=>
  rintro e w3 ⟨I,rfl⟩;have a2:=jz (b7.keep I);have O:=jz (aA a7 I);clear I;go_wp2_with (first
   | (refine eQ 123 _ rfl rfl rfl lL ?_)
   | (refine aP 123 (.tmp 4) (.tmp 17) rfl rfl (by rfl) (by rfl) a2 tJ rfl eY ?_;intro w9 R U d0 f6))
  refine bodyPost_ret (aC (P:=prog) rfl _ rfl R.range underlying123 rfl (by rw[jk];exact tJ)) rfl ?_;rw[b0.out,HQ.out];exact⟨O.trans (U.mono a8),.slice none 0 0,rfl,World.ownsRow_nil _ _ _ _⟩
 | some b=>
  rintro e w3 ⟨I,gb,rfl,f9,hB⟩;have a2:=jz (b7.keep I);have O:=jz (aA a7 I);have hN:=a9.out b rfl;have f2:Sn w3 1 (.slice (some ⟨gb,0,none⟩) b.length b.length) b.length (u8s (cY b)):=by
   refine⟨_,b.length,rfl,ja _,by rw[aJ,aV,Nat.mul_one],λ_=>⟨gb,0,rfl,?_⟩⟩;have h:=hB.range;rw[jt,fK] at h;exact h
  have HP:=jz (JF (cY b) (some ⟨gb,0,none⟩) b.length w3 (by rw[aV];exact f2) (l9 hN.1) (by rw[aV];exact hN.2));rw[aV] at HP;have a1:Hid (Z=if (tkR (cY b)).2 then ((tkR (cY b)).1,0) else (tk0,1)):=jz HQ.out;obtain⟨x,hx⟩:=je (tkR (cY b));rw[<- hx] at HP a1;obtain⟨t,ok⟩:=x;simp only at HP a1;clear I f9 hB hN f2 hx a9 HQ b7;go_wp2_with fail
  refine HP.mono ?_;rintro e w4 ⟨c7,v4,rfl,a0⟩;obtain⟨VA,vc,rfl,_,_⟩:=bO a0;have D:=jz (rK (t:=t) (v:=.slice VA t.client.parts.length vc) rfl);have f0:=jz (a2.keep c7);have d2:=jz (aA O c7);have c3:=jz (bI a0 (jm O.size (ja _)));obtain⟨V,hV⟩:=je (Value.slice VA t.client.parts.length vc);obtain⟨C,hC⟩:=je (tkC t V);rw[<- hV] at D c3 ⊢;rw[<- hC] at D ⊢;have f7:=jz hC;clear c7 a0 hV hC HP a2 O;go_upto_region 5 with (first
   | (refine al 123 tkZ rfl rfl eT ?_)
   | (refine bZ 123 (.tmp 8) (.tmp 21) rfl rfl (by rfl) (by rfl) D.out.1 D.out.2.1 D.out.2.2.1 ?_;intro w5 c4 a3 g0))
  try simp only[jq]
  obtain⟨g8,f3⟩:=je w4.heap.size;rw[<- f3] at c4 ⊢;have f8:Hid (w5.rangeAt g8 0 C):=jz (by have h:=Blk.range (show Blk w5 g8 _ _ from c4);rwa [jt] at h);have c2:=jz (f0.keep a3);have d5:=jz (aA d2 a3);have f1:=jz (aK c3 a3);clear c4 a3 g0 f3 f0 d2 c3;cases ok with
  | false=>
   go_wp2_with (first
    | (refine eQ 123 _ rfl rfl rfl lL ?_)
    | (refine aP 123 (.tmp 4) (.tmp 25) rfl rfl (by rfl) (by rfl) c2 tJ rfl eY ?_;intro w9 R U d0 f6))
   refine bodyPost_ret (aC (P:=prog) rfl _ rfl R.range underlying123 rfl (by rw[jk];exact tJ)) rfl ?_;rw[b0.out,a1.out];exact⟨d5.trans (U.mono a8),.slice none 0 0,rfl,World.ownsRow_nil _ _ _ _⟩
  | true=>
   go_wp2_with (first
    | (refine ld 123 (.tmp 8) rfl rfl (by rfl) f8 underlying123 rfl D.out.2.2.2 ?_)
    | (refine aP 123 (.tmp 4) (.tmp 26) rfl rfl (by rfl) (by rfl) c2 D.out.1 D.out.2.1 D.out.2.2.1 ?_;intro w9 R U d0 f6))
   refine bodyPost_ret (aC (P:=prog) rfl _ rfl R.range underlying123 rfl (by rw[jt];exact D.out.2.2.2)) rfl ?_;rw[b0.out,a1.out];refine⟨d5.trans (U.mono a8),V,?_,?_⟩
   ·rw[jt,f7.out];rfl
   ·exact aQ f1 (λb hb=>d0 b (λe=>cJ f1 c2 (by decide) (by rw[hb,e])))
theorem OI(key:Nat->Nat)(s:Wl)(v:Value)(w:Wd)(a6:bG key)(hk:TabK w)(hs:Sn w 1 v s.length (u8s s))(hb:Bys s)(hl:s.length<=1000000):
  Wc 111 #[.agg (arr 16 (c8 key)).toArray,v] w (AuR w (auO key s)):=by
 have HQ:Hid (auO key s=match mT key 11 (mU s) with
  | none=>(au0,2)
  | some b=>if (auR (cY b)).2 then ((auR (cY b)).1,0) else (au0,1)):=jz (by unfold auO;rfl)
 obtain⟨Z,hZ⟩:=je (auO key s);rw[<- hZ] at HQ ⊢;clear hZ;have c9:=mB hb;have b1:=jz (fun(W:Wd) (hW:Bw w W)=>FI key 11 (mU s) v W a6 (by decide) (hk.below hW) c9 (by rw[dR,<- rB hb];exact hs.below hW) (by rw[dR];exact hl));have a9:Hid (∀ b,mT key 11 (mU s)=some b->Byn b/\b.length<=1000000):=jz (λb h=>by
  have:=rI c9 h
  rw[dR] at this
  exact⟨this.1,by omega⟩)
 obtain⟨o,ho⟩:=je (mT key 11 (mU s));rw[<- ho] at HQ b1 a9;obtain⟨PQ,c5⟩:=je (AuR w Z);have b0:=jz c5;rw[<- c5];have d7:Hid ((prog.info? 35).map (·.size)=some (arr 16 (c8 key)).length):=jz (by rw[aB];kernel_rfl);obtain⟨w1,J⟩:=je (w.alloc (.cells (arr 16 (c8 key)).toArray 35));have e0:Hid (w1.rangeAt w.heap.size 0 (arr 16 (c8 key))):=jz (by rw[J];exact(AB.new w _ 16 _).range);have d1:Hid (Bw w w1):=jz (by rw[J];exact aH _ _);have f5:w1.heap.size=w.heap.size+1:=by rw[J];simp
 have e8:=jz f5;obtain⟨K,hK⟩:=je ((arr 16 (c8 key)).toArray);rw[<- hK] at J ⊢;clear c5 hK hs hb hl a6 hk c9 ho f5;go_enter func111,ntmps111
 go_upto_region 1 with (refine al 125 auZ rfl rfl fC ?_)
 rw[<- J];clear J;obtain⟨w2,a5⟩:=je (w1.alloc (.cells auZ 125));obtain⟨g4,a4⟩:=je (w.heap.size+1);have c6:Bw w1 w2:=by rw[a5];exact aH _ _
 have b7:Hid (Blk w2 g4 125 auZ):=jz (by rw[a5,a4,<- e8.out];exact Blk.new _ _ _);have a7:=jz (aA d1 c6);have a8:Hid (w.heap.size<=g4):=jz (by rw[a4];omega);have e1:Hid (w2.rangeAt w.heap.size 0 (arr 16 (c8 key))):=jz (λj u hj=>j9 c6 (e0 j u hj));rw[<- a5];rw[<- a4];clear a5 a4 c6 e8 e0 d1;go_wp2_with (refine ld 35 (.tmp 2) rfl rfl (by rfl) e1 underlying35 rfl d7 ?_)
 refine(b1 w2 a7).mono ?_;clear b1 d7 e1;cases o with
 | none=>
  rintro e w3 ⟨I,rfl⟩;have a2:=jz (b7.keep I);have O:=jz (aA a7 I);clear I;go_wp2_with (first
   | (refine eQ 125 _ rfl rfl rfl lM ?_)
   | (refine aP 125 (.tmp 4) (.tmp 17) rfl rfl (by rfl) (by rfl) a2 tK rfl eZ ?_;intro w9 R U d0 f6))
  refine bodyPost_ret (aC (P:=prog) rfl _ rfl R.range underlying125 rfl (by rw[jk];exact tK)) rfl ?_;rw[b0.out,HQ.out];exact⟨O.trans (U.mono a8),.slice none 0 0,rfl,World.ownsRow_nil _ _ _ _⟩
 | some b=>
  rintro e w3 ⟨I,gb,rfl,f9,hB⟩;have a2:=jz (b7.keep I);have O:=jz (aA a7 I);have hN:=a9.out b rfl;have f2:Sn w3 1 (.slice (some ⟨gb,0,none⟩) b.length b.length) b.length (u8s (cY b)):=by
   refine⟨_,b.length,rfl,ja _,by rw[aJ,aV,Nat.mul_one],λ_=>⟨gb,0,rfl,?_⟩⟩;have h:=hB.range;rw[jt,fK] at h;exact h
  have HP:=jz (JG (cY b) (some ⟨gb,0,none⟩) b.length w3 (by rw[aV];exact f2) (l9 hN.1) (by rw[aV];exact hN.2));rw[aV] at HP;have a1:Hid (Z=if (auR (cY b)).2 then ((auR (cY b)).1,0) else (au0,1)):=jz HQ.out;obtain⟨x,hx⟩:=je (auR (cY b));rw[<- hx] at HP a1;obtain⟨t,ok⟩:=x;simp only at HP a1;clear I f9 hB hN f2 hx a9 HQ b7;go_wp2_with fail
  refine HP.mono ?_;rintro e w4 ⟨c7,v4,rfl,a0⟩;obtain⟨VA,vc,rfl,_,_⟩:=bO a0;have D:=jz (yC (t:=t) (v:=.slice VA t.client.parts.length vc) rfl);have f0:=jz (a2.keep c7);have d2:=jz (aA O c7);have c3:=jz (bI a0 (jm O.size (ja _)));obtain⟨V,hV⟩:=je (Value.slice VA t.client.parts.length vc);obtain⟨C,hC⟩:=je (auC t V);rw[<- hV] at D c3 ⊢;rw[<- hC] at D ⊢;have f7:=jz hC;clear c7 a0 hV hC HP a2 O;go_upto_region 5 with (first
   | (refine al 125 auZ rfl rfl fC ?_)
   | (refine bZ 125 (.tmp 8) (.tmp 21) rfl rfl (by rfl) (by rfl) D.out.1 D.out.2.1 D.out.2.2.1 ?_;intro w5 c4 a3 g0))
  try simp only[jq]
  obtain⟨g8,f3⟩:=je w4.heap.size;rw[<- f3] at c4 ⊢;have f8:Hid (w5.rangeAt g8 0 C):=jz (by have h:=Blk.range (show Blk w5 g8 _ _ from c4);rwa [jt] at h);have c2:=jz (f0.keep a3);have d5:=jz (aA d2 a3);have f1:=jz (aK c3 a3);clear c4 a3 g0 f3 f0 d2 c3;cases ok with
  | false=>
   go_wp2_with (first
    | (refine eQ 125 _ rfl rfl rfl lM ?_)
    | (refine aP 125 (.tmp 4) (.tmp 25) rfl rfl (by rfl) (by rfl) c2 tK rfl eZ ?_;intro w9 R U d0 f6))
   refine bodyPost_ret (aC (P:=prog) rfl _ rfl R.range underlying125 rfl (by rw[jk];exact tK)) rfl ?_;rw[b0.out,a1.out];exact⟨d5.trans (U.mono a8),.slice none 0 0,rfl,World.ownsRow_nil _ _ _ _⟩
  | true=>
   go_wp2_with (first
    | (refine ld 125 (.tmp 8) rfl rfl (by rfl) f8 underlying125 rfl D.out.2.2.2 ?_)
    | (refine aP 125 (.tmp 4) (.tmp 26) rfl rfl (by rfl) (by rfl) c2 D.out.1 D.out.2.1 D.out.2.2.1 ?_;intro w9 R U d0 f6))
   refine bodyPost_ret (aC (P:=prog) rfl _ rfl R.range underlying125 rfl (by rw[jt];exact D.out.2.2.2)) rfl ?_;rw[b0.out,a1.out];refine⟨d5.trans (U.mono a8),V,?_,?_⟩
   ·rw[jt,f7.out];rfl
   ·exact aQ f1 (λb hb=>d0 b (λe=>cJ f1 c2 (by decide) (by rw[hb,e])))
end
end Go.Proofs.YtiaigidbcljblaaGreatDoor
