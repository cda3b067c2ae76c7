import Derived.Test.YtjjlaipkkdncfaaGreatDoorMV30
import Derived.Test.YtjjlaipkkdncfaaGreatDoorMV31
import Derived.Test.YtjjlaipkkdncfaaGreatDoorMV28
import Derived.Test.YtjjlaipkkdncfaaGreatDoorMV32
set_option linter.unusedVariables false
set_option linter.unusedSimpArgs false
set_option maxRecDepth 100000
set_option maxHeartbeats 40000000
namespace Go.Proofs.YtjjlaipkkdncfaaGreatDoor
open Go.Proofs.Tryz
section
open Go.RowKit
attribute [local irreducible] wpQuiet wpAnyH
theorem PI{P:Program}{f:FuncId}{args:Wa}{w:Wd}{R:Ending->Wd->Prop}(h:Calls P f args w R):∃ e w',R e w':=by
 obtain⟨e,w',_,h1,_⟩:=h [];exact⟨e,w',h1⟩
section
variable {w0 w w' : Wd} {m m' : DiskM} {d d' : DiskD} {n n' : Nat} {cv : Value} {F : List Nat} {co : Option CacheD}
theorem SN{d:DiskD}(h:d.steps<=d.room)(D:Nat)(C:CacheD)(q:b8)(now:Int)(I:(gI d D C now).2.1.steps<=(gI d D C now).2.1.room):(mD d D C q now).2.1.room<=d.room+2*C.E.length+7/\(mD d D C q now).2.1.sec.length=d.sec.length:=by
 have ht:∀(d:DiskD) (C:CacheD),d.steps<=d.room->(rC d D C q).2.1.room<=d.room+3/\(rC d D C q).2.1.sec.length=d.sec.length:=λd C h=>by
  have h1:=R0 h D C.L q;have I:=OP d D C.L q;unfold rC;split
  ·exact⟨by show d.room<=_;omega,rfl⟩
  ·split
   ·exact⟨h1,I⟩
   ·exact⟨h1,I⟩
 have K:=IM h D C now;unfold mD;split
 ·exact⟨by show d.room<=_;omega,rfl⟩
 split
 ·exact⟨by show d.room<=_;omega,rfl⟩
 split
 ·exact⟨by show d.room<=_;omega,rfl⟩
 split
 ·exact⟨by show d.room<=_;omega,rfl⟩
 split
 ·split
  ·exact⟨by show(gI d D C now).2.1.room<=_;omega,K.2⟩
  ·have J:=ht _ (gI d D C now).2.2 I;exact⟨by omega,J.2.trans K.2⟩
 ·have J:=ht d C h;exact⟨by omega,J.2⟩
theorem SO{gc gl gi bi h n:Nat}{C:CacheD}(J:CK w m d gc gl gi bi h n C)(D:n<=1000)(I:d.room+30000<=100000)(now:Int):DOk (gI d h C now).2.1:=by
 obtain⟨e,w',_,m',h1,_⟩:=PI (yM now w m d gc gl gi bi h n C J D I);exact h1.lk.dk.ok
def CO(w0 w:Wd)(m:DiskM)(d:DiskD)(n:Nat)(cv:Value)(F:List Nat)(co:Option CacheD):Prop:=
 (cv = .pointer none/\F=[]/\co=none)\/(∃ gc gl gi bi C,cv = .pointer (some ⟨gc,0,none⟩)/\F=[gl,bi,gc,gi]/\co=some C/\CK w m d gc gl gi bi (d.sec.length/2) n C/\∀ b∈F,w0.heap.size<=b)
theorem CO.keep(h:CO w0 w m d n cv F co)(hb:Bw w w'):CO w0 w' m d n cv F co:=
 h.imp id (λ⟨gc,gl,gi,bi,C,h1,D,I,J,K⟩=>⟨gc,gl,gi,bi,C,h1,D,I,J.keep hb,K⟩)
theorem CO.far(h:CO w0 w m d n cv F co):∀ b∈F,w0.heap.size<=b/\b<w.heap.size:=λb hb=>by
 rcases h with ⟨_,D,_⟩|⟨gc,gl,gi,bi,C,h1,D,K,I,J⟩
 ·rw[D] at hb;cases hb
 ·refine⟨J b hb,?_⟩;rw[D] at hb;have:=I.ix.lt;simp at hb;rcases hb with rfl|rfl|rfl|rfl
  ·exact I.lk.blk.lt
  ·exact this.2
  ·exact I.blk.lt
  ·exact this.1
theorem CO.form(h:CO w0 w m d n cv F co):cv.oneCell'=true:=by
 rcases h with ⟨h1,_⟩|⟨gc,gl,gi,bi,C,h1,_⟩ <;> (rw[h1];rfl)
theorem CO.up(h:CO w0 w m d n cv F co)(O:n<=n'):CO w0 w m d n' cv F co:=
 h.imp id (λ⟨gc,gl,gi,bi,C,h1,D,I,J,K⟩=>⟨gc,gl,gi,bi,C,h1,D,I,J.up O,K⟩)
theorem CO.disk(h:CO w0 w m d n cv F co)(R:DK w' m' d')(ht:DT w m w' m')(D:d'.sec.length=d.sec.length):CO w0 w' m' d' n cv F co:=
 h.imp id (λ⟨gc,gl,gi,bi,C,h1,I,J,K,O⟩=>⟨gc,gl,gi,bi,C,h1,I,J,by rw[D];exact K.disk R ht D,O⟩)
theorem CK.off{gc gl gi bi I:Nat}{Cc:CacheD}{g:Nat}(k:CK w m d gc gl gi bi I n Cc)(D:Off g w w')(ha:Apart m g)(h1:g≠gl)(J:g≠bi)(K:g≠gc)(O:g≠gi):CK w' m d gc gl gi bi I n Cc:=
 ⟨⟨k.lk.dk.offO D ha,D.blk k.lk.blk (Ne.symm h1),k.lk.ap,k.lk.ok⟩,D.blk k.blk (Ne.symm K),k.ix.same (D.block gi k.ix.lt.1 (Ne.symm O)) (D.block bi k.ix.lt.2 (Ne.symm J)),k.ac,k.ai,k.ab,k.ne,k.i64⟩
end
end
section
open Go.RowKit
attribute [local irreducible] wpQuiet wpAnyH
structure VS where
 d:DiskD
 now:Int
 co:Option CacheD
def wY(key:Nat->Nat)(skew:Int)(g:Nat)(now:Int)(cv:Value):Wa:=(arr 16 (c8 key)++[.int .i64 skew,.pointer (some ⟨g,0,none⟩),.int .i64 now,cv]).toArray
structure VV(w0 w:Wd)(m:DiskM)(gv k N:Nat)(key:Nat->Nat)(skew:Int)(s:VS)(cv:Value)(F:List Nat):Prop where
 st:St w0 w m s.d
 blk:Blk w gv 83 (wY key skew m.g s.now cv)
 co:CO w0 w m s.d (30+k) cv F s.co
 far:Far m F gv
 lo:w0.heap.size<=gv
 now:0<=s.now/\s.now<=1099511627776
 skew:1<=skew/\skew<=1073741824
 len:s.d.sec.length=N
 few:N<=30
 rm:s.d.room<=200*k
structure VT(gv:Nat)(w:Wd)(m:DiskM)(F:List Nat)(w':Wd)(m':DiskM)(F':List Nat):Prop where
 ct:CT (gv :: F) w m w' m'
 fs:∀ b∈F',b∈F\/w.heap.size<=b
section
variable {w0 w w' w'' : Wd} {m m' m'' : DiskM} {gv k k' N : Nat} {key : Nat -> Nat} {skew : Int} {s s' : VS} {cv cv' : Value} {F F' F'' : List Nat}
theorem tH(key:Nat->Nat)(skew:Int)(g:Nat)(now:Int)(cv:Value)(j:Nat):(wY key skew g now cv)[16+j]? = [Value.int .i64 skew,.pointer (some ⟨g,0,none⟩),.int .i64 now,cv][j]?:=by
 unfold wY;rw[jf,jx (by rw[aA];omega),aA,Nat.add_sub_cancel_left]
theorem DZ(key:Nat->Nat)(skew:Int)(g:Nat)(now:Int)(cv:Value)(j:Nat)(v:Value):(wY key skew g now cv).setIfInBounds (16+j) v=(arr 16 (c8 key)++[Value.int .i64 skew,.pointer (some ⟨g,0,none⟩),.int .i64 now,cv].set j v).toArray:=by
 unfold wY;rw[List.setIfInBounds_toArray,List.set_append,jQ (by rw[aA];omega),aA,Nat.add_sub_cancel_left]
theorem VV.cells(h:VV w0 w m gv k N key skew s cv F):w.cell? ⟨gv,16,none⟩=some (.int .i64 skew)/\w.cell? ⟨gv,17,none⟩=some (.pointer (some ⟨m.g,0,none⟩))/\w.cell? ⟨gv,18,none⟩=some (.int .i64 s.now)/\w.cell? ⟨gv,19,none⟩=some cv:=
 ⟨(h.blk.cell 16).trans (tH _ _ _ _ _ 0),(h.blk.cell 17).trans (tH _ _ _ _ _ 1),(h.blk.cell 18).trans (tH _ _ _ _ _ 2),(h.blk.cell 19).trans (tH _ _ _ _ _ 3)⟩
structure VC(gv:Nat)(skew:Int)(g:Nat)(now:Int)(cv:Value)(W:Wd):Prop where
 c16:W.cell? ⟨gv,16,none⟩=some (.int .i64 skew)
 c17:W.cell? ⟨gv,17,none⟩=some (.pointer (some ⟨g,0,none⟩))
 c18:W.cell? ⟨gv,18,none⟩=some (.int .i64 now)
 c19:W.cell? ⟨gv,19,none⟩=some cv
theorem VV.vc(h:VV w0 w m gv k N key skew s cv F):VC gv skew m.g s.now cv w:=⟨h.cells.1,h.cells.2.1,h.cells.2.2.1,h.cells.2.2.2⟩
theorem VC.keep{g:Nat}{now:Int}(h:VC gv skew g now cv w)(hb:Bw w w'):VC gv skew g now cv w':=⟨j9 hb h.c16,j9 hb h.c17,j9 hb h.c18,j9 hb h.c19⟩
theorem VV.krange(h:VV w0 w m gv k N key skew s cv F):w.rangeAt gv 0 (arr 16 (c8 key)):=λj u D=>by
 have I:j<16:=by
  have:=(List.getElem?_eq_some_iff.1 D).1
  rwa [aA] at this
 have h1:=h.blk.cell j;rw[Nat.zero_add,h1];unfold wY;rw[jf,jy (by rw[aA];exact I),D]
theorem VV.keep(h:VV w0 w m gv k N key skew s cv F)(hb:Bw w w'):VV w0 w' m gv k N key skew s cv F:=
 ⟨h.st.keep hb,h.blk.keep hb,h.co.keep hb,h.far,h.lo,h.now,h.skew,h.len,h.few,h.rm⟩
theorem VV.drew(h:VV w0 w m gv k N key skew s cv F):VV w0 w.drew m gv k N key skew s cv F:=h.keep (ji _ _).drew
theorem VV.up(h:VV w0 w m gv k N key skew s cv F)(D:k<=k'):VV w0 w m gv k' N key skew s cv F:=
 ⟨h.st,h.blk,h.co.up (by omega),h.far,h.lo,h.now,h.skew,h.len,h.few,by have:=h.rm;omega⟩
theorem VT.refl:VT gv w m F w m F:=⟨CT.of_below (ji _ _),λ_ h=>.inl h⟩
theorem VT.of_below(hb:Bw w w'):VT gv w m F w' m F:=⟨CT.of_below hb,λ_ h=>.inl h⟩
theorem VT.trans(h:VT gv w m F w' m' F')(k:VT gv w' m' F' w'' m'' F''):VT gv w m F w'' m'' F'':=
 ⟨⟨k.ct.g.trans h.ct.g,h.ct.fo.trans k.ct.fo (λx D=>by
  rcases List.mem_append.1 D with h1|h1
  ·rcases List.mem_cons.1 h1 with I|I
   ·exact .inl (List.mem_append.2 (.inl (List.mem_cons.2 (.inl I))))
   ·exact(h.fs x I).imp (λh=>List.mem_append.2 (.inl (List.mem_cons.2 (.inr h)))) id
  ·exact(h.ct.sub x h1).imp (λh=>List.mem_append.2 (.inr h)) id),λx D=>by
  rcases k.ct.sub x D with h1|h1
  ·exact h.ct.sub x h1
  ·exact .inr (jm h.ct.fo.size h1),λx v D=>by
  rcases k.ct.cv x v D with h1|h1
  ·exact h.ct.cv x v h1
  ·exact .inr (λb e=>jm h.ct.fo.size (h1 b e))⟩,λb hb=>by
  rcases k.fs b hb with h1|h1
  ·exact h.fs b h1
  ·exact .inr (jm h.ct.fo.size h1)⟩
theorem VT.undrew(h:VT gv w.drew m F w' m' F'):VT gv w m F w' m' F':=(VT.of_below (ji _ _).drew).trans h
theorem VV.put(h:VV w0 w m gv k N key skew s cv F){now:Int}{cv':Value}{F':List Nat}{co:Option CacheD}{u:Value}(j:Nat)(R:[Value.int .i64 skew,.pointer (some ⟨m.g,0,none⟩),.int .i64 s.now,cv].set j u=[Value.int .i64 skew,.pointer (some ⟨m.g,0,none⟩),.int .i64 now,cv'])
  (J:CO w0 (w.setCell ⟨gv,16+j,none⟩ u) m s.d (30+k) cv' F' co) (I:∀ b∈F',b∈F) (O:0<=now/\now<=1099511627776):
  VV w0 (w.setCell ⟨gv,16+j,none⟩ u) m gv k N key skew ⟨s.d,now,co⟩ cv' F'/\VT gv w m F (w.setCell ⟨gv,16+j,none⟩ u) m F':=by
 have D:Off gv w (w.setCell ⟨gv,16+j,none⟩ u):=(Off.refl gv w).set _ _;have hb:=h.blk.set_ (16+j) u;rw[DZ,R] at hb;exact⟨⟨⟨h.st.dk.offO D h.far.1,h.st.ft,h.st.bel.trans (D.below h.lo h.st.bel.size)⟩,hb,J,⟨h.far.1,λK=>h.far.2 (I _ K)⟩,h.lo,O,h.skew,h.len,h.few,h.rm⟩,⟨CT.of_off D (List.mem_cons_self ..),λb hb=>.inl (I b hb)⟩⟩
theorem CO.off{co:Option CacheD}{n g:Nat}{d:DiskD}(h:CO w0 w m d n cv F co)(U:Off g w w')(J:Far m F g):CO w0 w' m d n cv F co:=by
 refine h.imp id (λ⟨gc,gl,gi,bi,Cc,h1,I,K,O,R⟩=>⟨gc,gl,gi,bi,Cc,h1,I,K,?_,R⟩);have D:=J.2;rw[I] at D;simp at D;exact O.off U J.1 D.1 D.2.1 D.2.2.1 D.2.2.2
theorem VV.drop(h:VV w0 w m gv k N key skew s cv F):VV w0 (w.setCell ⟨gv,19,none⟩ (.pointer none)) m gv k N key skew ⟨s.d,s.now,none⟩ (.pointer none) []/\VT gv w m F (w.setCell ⟨gv,19,none⟩ (.pointer none)) m []:=
 h.put 3 rfl (.inl ⟨rfl,rfl,rfl⟩) (λ_ h=>by cases h) h.now
theorem VV.clock(h:VV w0 w m gv k N key skew s cv F)(t:Int)(ht:0<=t/\t<=1099511627776):VV w0 (w.setCell ⟨gv,18,none⟩ (.int .i64 t)) m gv k N key skew ⟨s.d,t,s.co⟩ cv F/\VT gv w m F (w.setCell ⟨gv,18,none⟩ (.int .i64 t)) m F:=
 h.put 2 rfl (h.co.off ((Off.refl gv w).set _ _) h.far) (λ_ h=>h) ht
theorem VV.disk{d':DiskD}(h:VV w0 w m gv k N key skew s cv F)(I:DK w' m' d')(ht:DT w m w' m')(J:d'.sec.length=s.d.sec.length)(O:d'.room<=200*k')(K:k<=k'):VV w0 w' m' gv k' N key skew ⟨d',s.now,s.co⟩ cv F/\VT gv w m F w' m' F:=by
 have D:CT F w m w' m':=CT.of_dt ht;refine⟨⟨h.st.next I ht,?_,(h.co.disk I ht J).up (by omega),D.far h.blk.lt h.far,h.lo,h.now,h.skew,J.trans h.len,h.few,O⟩,⟨CT.of_dt ht,λ_ h=>.inl h⟩⟩;rw[ht.g];exact h.blk.ct D h.far
theorem VV.cache{d':DiskD}{co:Option CacheD}(h:VV w0 w m gv k N key skew s cv F){G:List Nat}(K:∀ b∈G,b∈F)(O:DK w' m' d')(I:CO w0 w' m' d' (30+k') cv F co)(ht:CT G w m w' m')(R:d'.sec.length=s.d.sec.length)(U:d'.room<=200*k'):VV w0 w' m' gv k' N key skew ⟨d',s.now,co⟩ cv F/\VT gv w m F w' m' F:=by
 have D:CT F w m w' m':=ht.wide (λx J=>.inl (K x J));refine⟨⟨h.st.ct O D (λb hb=>(h.co.far b hb).1),?_,I,D.far h.blk.lt h.far,h.lo,h.now,h.skew,R.trans h.len,h.few,U⟩,⟨D.wide (λx J=>.inl (List.mem_cons.2 (.inr J))),λ_ h=>.inl h⟩⟩;rw[ht.g];exact h.blk.ct D h.far
theorem VV.far_new(h:VV w0 w m gv k N key skew s cv F){b:Nat}(hb:w.heap.size<=b):Far m (gv :: F) b:=
 ⟨Apart.fresh h.st.dk hb,λD=>by
  rcases List.mem_cons.1 D with h1|h1
  ·have:=h.blk.lt;omega
  ·have:=(h.co.far b h1).2;omega⟩
theorem VT.far(h:VT gv w m F w' m' F'){b:Nat}(hb:b<w.heap.size)(I:Far m (gv :: F) b):Far m' (gv :: F') b:=
 ⟨(h.ct.far hb I).1,λJ=>I.2 (by
  rcases List.mem_cons.1 J with h1|h1
  ·exact List.mem_cons.2 (.inl h1)
  ·rcases h.fs b h1 with D|D
   ·exact List.mem_cons.2 (.inr D)
   ·omega)⟩
end
def VE(w0 w:Wd)(gv g9 k N:Nat)(key:Nat->Nat)(skew:Int)(s:VS)(X:Nat->Prop):Prop:=∃ m cv F,m.g=g9/\VV w0 w m gv k N key skew s cv F/\∀ b,X b->Far m (gv :: F) b/\b<w.heap.size
structure XT(X:Nat->Prop)(w w':Wd):Prop where
 size:w.heap.size<=w'.heap.size
 block:∀ b,X b->w'.heap[b]? = w.heap[b]?
section
variable {w0 w w' w'' : Wd} {gv g9 k k' N : Nat} {key : Nat -> Nat} {skew : Int} {s s' : VS} {X Y : Nat -> Prop}
theorem XT.trans(h:XT X w w')(D:XT X w' w''):XT X w w'':=⟨jm h.size D.size,λb hb=>(D.block b hb).trans (h.block b hb)⟩
theorem XT.refl:XT X w w:=⟨ja _,λ_ _=>rfl⟩
theorem XT.of_below(D:∀ b,X b->b<w.heap.size)(hb:Bw w w'):XT X w w':=⟨hb.size,λb h=>hb.block b (D b h)⟩
theorem VE.lt(h:VE w0 w gv g9 k N key skew s X):∀ b,X b->b<w.heap.size:=by
 obtain⟨m,cv,F,_,_,D⟩:=h;exact λb hb=>(D b hb).2
theorem VE.keep(h:VE w0 w gv g9 k N key skew s X)(hb:Bw w w'):VE w0 w' gv g9 k N key skew s X:=by
 obtain⟨m,cv,F,hg,I,D⟩:=h;exact⟨m,cv,F,hg,I.keep hb,λb h=>⟨(D b h).1,jp (D b h).2 hb.size⟩⟩
theorem VE.add(h:VE w0 w gv g9 k N key skew s X)(hb:Bw w w')(J:∀ b,Y b->X b\/(w.heap.size<=b/\b<w'.heap.size)):VE w0 w' gv g9 k N key skew s Y:=by
 obtain⟨m,cv,F,hg,D,I⟩:=h;refine⟨m,cv,F,hg,D.keep hb,λb h=>?_⟩;rcases J b h with h1|h1
 ·exact⟨(I b h1).1,jp (I b h1).2 hb.size⟩
 ·exact⟨D.far_new h1.1,h1.2⟩
theorem VE.less(h:VE w0 w gv g9 k N key skew s X)(D:∀ b,Y b->X b):VE w0 w gv g9 k N key skew s Y:=by
 obtain⟨m,cv,F,hg,I,J⟩:=h;exact⟨m,cv,F,hg,I,λb h=>J b (D b h)⟩
theorem VE.up(h:VE w0 w gv g9 k N key skew s X)(D:k<=k'):VE w0 w gv g9 k' N key skew s X:=by
 obtain⟨m,cv,F,hg,I,J⟩:=h;exact⟨m,cv,F,hg,I.up D,J⟩
theorem VE.bel(h:VE w0 w gv g9 k N key skew s X):Bw w0 w:=by
 obtain⟨m,cv,F,hg,D,I⟩:=h;exact D.st.bel
theorem VE.of{m m':DiskM}{cv':Value}{F F':List Nat}(D:∀ b,X b->Far m (gv :: F) b/\b<w.heap.size)(hg:m.g=g9)(I:VV w0 w' m' gv k N key skew s cv' F')(ht:VT gv w m F w' m' F'):VE w0 w' gv g9 k N key skew s X/\XT X w w':=
 ⟨⟨m',cv',F',ht.ct.g.trans hg,I,λb h=>⟨ht.far (D b h).2 (D b h).1,jp (D b h).2 ht.ct.fo.size⟩⟩,⟨ht.ct.fo.size,λb h=>ht.ct.block (D b h).2 (D b h).1⟩⟩
end
end
section
open Go.RowKit
attribute [local irreducible] wpQuiet wpAnyH
def aR(s:VS):VS:=if s.d.down then ⟨s.d,s.now,none⟩ else s
def kI(now n:Int):Int:=if 1099511627776-now<n then 1099511627776 else if 0<n then now+n else now
def pT(s:VS)(n:Int):VS:=⟨s.d,kI s.now n,(aR s).co⟩
theorem nN(s:VS):(aR s).now=s.now:=by unfold aR;split <;> rfl
theorem SP(s:VS):(aR s).d=s.d:=by unfold aR;split <;> rfl
theorem FY(s:VS):aR (aR s)=aR s:=by
 unfold aR;split <;> rfl
theorem PJ{now n:Int}(h:0<=now/\now<=1099511627776):0<=kI now n/\kI now n<=1099511627776:=by unfold kI;split <;> (try split) <;> omega
section
variable {w0 w : Wd} {m : DiskM} {gv k N : Nat} {key : Nat -> Nat} {skew : Int} {s : VS} {cv : Value} {F : List Nat} {d : DiskD}
theorem K9(h:DK w m d):Wc 49 #[.pointer (some ⟨m.g,0,none⟩)] w λe w'=>e = .returned (.bool d.down)/\w'=w:=by
 have D:=h.blk.cell 3;simp only[eX,jf,jh,jg] at D;clear h;go_enter func49,ntmps49
 go_wp2_with fail
 go_ret;exact⟨rfl,rfl⟩
def WI(w0 w:Wd)(m:DiskM)(gv k N:Nat)(key:Nat->Nat)(skew:Int)(s:VS)(cv:Value)(F:List Nat)(w':Wd):Prop:=∃ cv' F',VV w0 w' m gv k N key skew s cv' F'/\VT gv w m F w' m F'/\(∀ b∈F',b∈F)/\(w'=w\/w'=w.setCell ⟨gv,19,none⟩ (.pointer none))
theorem AG(h:VV w0 w m gv k N key skew s cv F):Wc 32 #[.pointer (some ⟨gv,0,none⟩)] w λe w'=>e = .returned (.tuple #[])/\WI w0 w m gv k N key skew (aR s) cv F w':=by
 obtain⟨c16,c17,c18,c19⟩:=h.cells;have J:=h.blk.frozen 19;have D:=jz (K9 h.st.dk);have H:=jz h;clear h;rcases jb s.d.down with t|t
 ·have I:Hid (aR s=⟨s.d,s.now,none⟩):=jz (jP t);rw[t] at D;clear t;go_enter func32,ntmps32
  go_wp2_with (go_at_call 49;refine D.mono ?_;rintro e K ⟨rfl,rfl⟩)
  refine bodyPost_end (results_none rfl _ _ _) rfl ⟨rfl,?_⟩;rw[I.out];exact⟨_,_,H.out.drop.1,H.out.drop.2,(λ_ h=>by cases h),.inr rfl⟩
 ·have I:Hid (aR s=s):=jz (jQ (by rw[t];decide));rw[t] at D;clear t;go_enter func32,ntmps32
  go_wp2_with (go_at_call 49;refine D.mono ?_;rintro e K ⟨rfl,rfl⟩)
  refine bodyPost_end (results_none rfl _ _ _) rfl ⟨rfl,?_⟩;rw[I.out];exact⟨_,_,H,VT.refl,(λ_ h=>h),.inl rfl⟩
theorem WJ(h:VV w0 w m gv k N key skew s cv F):Wc 28 #[.pointer (some ⟨gv,0,none⟩)] w λe w'=>e = .returned (.int .i64 s.now)/\∃ cv' F',VV w0 w' m gv k N key skew (aR s) cv' F'/\VT gv w m F w' m F':=by
 have D:=jz (AG h);have O:Hid ((aR s).now=s.now):=jz (nN s);clear h;go_enter func28,ntmps28
 go_wp2_with fail
 refine D.mono ?_;rintro e V ⟨rfl,R,U,h1,I,_⟩;obtain⟨_,_,c18,_⟩:=h1.cells;rw[O.out] at c18;have J:=jz h1;have K:=jz I;clear h1 I D;go_wp2_with fail
 go_ret;exact⟨rfl,_,_,J,K⟩
theorem vZ(h:VV w0 w m gv k N key skew s cv F):Wc 39 #[.pointer (some ⟨gv,0,none⟩)] w λe w'=>e = .returned (.bool (aR s).co.isSome)/\∃ cv' F',VV w0 w' m gv k N key skew (aR s) cv' F'/\VT gv w m F w' m F':=by
 have J:=jz (AG h);clear h;obtain⟨b,hb⟩:=je ((aR s).co.isSome);rw[<- hb];have U:=jz hb;clear hb;go_enter func39,ntmps39
 go_wp2_with fail
 refine J.mono ?_;rintro e w1 ⟨rfl,Z,F1,h1,K,_⟩;obtain⟨_,_,_,c19⟩:=h1.cells;have I:=h1.co;have O:=jz h1;have R:=jz K;clear h1 K J;rcases I with ⟨rfl,_,D⟩|⟨gc,gl,gi,bi,C,rfl,_,D,_⟩
 all_goals
  have V:=jz D;clear D;go_wp2_with fail
  go_ret;exact⟨by rw[U.out,V.out];rfl,_,_,O,R⟩
theorem VF(n:Int)(hn:aI n)(h:VV w0 w m gv k N key skew s cv F):Wc 16 #[.pointer (some ⟨gv,0,none⟩),.int .i64 n] w λe w'=>e = .returned (.int .i64 (kI s.now n))/\∃ cv' F',VV w0 w' m gv k N key skew (pT s n) cv' F'/\VT gv w m F w' m F':=by
 have R:=jz (AG h);have HN:Hid ((aR s).now=s.now):=jz (nN s);have K:Hid ((aR s).d=s.d):=jz (SP s);have hb:=h.now;have HB:=jz (PJ (n:=n) h.now);unfold aI at hn;clear h;have t1:=Int.lt_or_le (1099511627776-s.now) n;obtain⟨t,ht⟩:∃ t,s.now=t:=⟨_,rfl⟩;rw[ht] at hb t1 HN HB ⊢;have I:Hid (kI t n=if 1099511627776-t<n then 1099511627776 else if 0<n then t+n else t):=jz rfl;have O:Hid (pT s n=⟨s.d,kI t n,(aR s).co⟩):=jz (by unfold pT;rw[ht]);clear ht;rcases t1 with t1|t1
 ·rw[jP t1] at I;go_enter func16,ntmps16
  go_wp2_with fail
  refine R.mono ?_;rintro e w1 ⟨rfl,D,U,h1,J,_⟩;obtain⟨_,_,c18,_⟩:=h1.cells;have a0:=h1.blk.frozen 18;rw[HN.out] at c18;have V:=jz h1;have Z:=jz J;clear h1 J R;go_wp2_with fail
  go_ret;have h3:=V.out.clock 1099511627776 (by omega);refine⟨by rw[I.out];rfl,D,U,?_,Z.out.trans h3.2⟩;rw[O.out,I.out,<- K.out];exact h3.1
 have a1:¬(1099511627776-t<n):=by omega
 rw[jQ a1] at I;rcases Int.lt_or_le 0 n with t2|t2
 ·rw[jP t2] at I;have hs:t+n<=1099511627776:=by omega
  go_enter func16,ntmps16
  go_wp2_with fail
  refine R.mono ?_;rintro e w1 ⟨rfl,D,U,h1,J,_⟩;obtain⟨_,_,c18,_⟩:=h1.cells;have a0:=h1.blk.frozen 18;rw[HN.out] at c18;have V:=jz h1;have Z:=jz J;clear h1 J R;go_wp2_with fail
  go_ret;have h3:=V.out.clock (t+n) (by omega);refine⟨by rw[I.out];rfl,D,U,?_,Z.out.trans h3.2⟩;rw[O.out,I.out,<- K.out];exact h3.1
 ·have a2:¬(0<n):=by omega
  rw[jQ a2] at I;go_enter func16,ntmps16
  go_wp2_with fail
  refine R.mono ?_;rintro e w1 ⟨rfl,D,U,h1,J,_⟩;obtain⟨_,_,c18,_⟩:=h1.cells;have a0:=h1.blk.frozen 18;rw[HN.out] at c18;have V:=jz h1;have Z:=jz J;clear h1 J R;go_wp2_with fail
  go_ret;refine⟨by rw[I.out];rfl,D,U,?_,Z⟩;rw[O.out,I.out,<- K.out,<- HN.out];exact V.out
end
end
section
open Go.RowKit
attribute [local irreducible] wpQuiet wpAnyH
theorem LA(key:Nat->Nat)(skew:Int)(g:Nat):prog.built 83 [(0,.agg (arr 16 (c8 key)).toArray),(1,.int .i64 skew),(2,.pointer (some ⟨g,0,none⟩))]=some (wY key skew g 0 (.pointer none)):=by unfold wY;kernel_rfl
def m7(skew:Int)(s:VS):Ans×VS:=match (cO (dX s.d)).2.2 with
 | none=>((cO (dX s.d)).1,⟨(cO (dX s.d)).2.1,s.now,none⟩)
 | some (L,es)=>((cO (dX s.d)).1,⟨(cO (dX s.d)).2.1,s.now,some ⟨L,bM (gW es) s.now,e9 s.now skew⟩⟩)
def jB(s:VS):EL:=match (aR s).co with
 | none=>[]
 | some C=>bM C.E s.now
section
variable {w0 w w' : Wd} {m m' : DiskM} {gv k N : Nat} {key : Nat -> Nat} {skew : Int} {s : VS} {cv : Value} {F : List Nat} {d : DiskD}
theorem TR(key:Nat->Nat)(skew:Int)(hs:1<=skew/\skew<=1073741824)(h:St w0 w m d)(hl:d.sec.length=N)(hN:N<=30)(hr:d.room<=200*k):
  Wc 12 #[.agg (arr 16 (c8 key)).toArray,.int .i64 skew,.pointer (some ⟨m.g,0,none⟩)] w λe w'=>∃ gv,e = .returned (.pointer (some ⟨gv,0,none⟩))/\VV w0 w' m gv k N key skew ⟨d,0,none⟩ (.pointer none) []/\Bw w w'/\w.heap.size<=gv:=by
 have H:=jz h;have HL:=jz hl;have HS:=jz hs;have a3:¬skew<1:=by omega
 have a4:¬(1073741824:Int)<skew:=by omega
 have a5:skew<=1073741824:=hs.2;have a6:1<=skew:=hs.1;obtain⟨g,hg⟩:=je m.g;have R:=jz (LA key skew m.g);rw[<- hg] at R ⊢;have HG:=jz hg;obtain⟨K,I⟩:=je (w.alloc (.cells (arr 16 (c8 key)).toArray 41));have D:Hid (Bw w K):=jz (by rw[I];exact aV _ _);have Z:Hid (Blk K w.heap.size 41 (arr 16 (c8 key)).toArray):=jz (by rw[I];exact Blk.new _ _ _);have V:K.rangeAt w.heap.size 0 (arr 16 (c8 key)):=by have:=Z.range;rwa [jt] at this
 have U:(prog.info? 41).map (·.size)=some (arr 16 (c8 key)).length:=by rw[aA];kernel_rfl
 obtain⟨w2,J⟩:=je (K.alloc (.cells (wY key skew g 0 (.pointer none)) 83));have O:Hid (Bw K w2):=jz (by rw[J];exact aV _ _);have a0:Hid (Blk w2 K.heap.size 83 (wY key skew g 0 (.pointer none))):=jz (by rw[J];exact Blk.new _ _ _);have a2:=jz V;have a1:=jz U;clear V U;clear h hl hs hg;go_enter func12,ntmps12
 go_upto_region 1 with fail
 rw[<- I];clear I;go_upto_region 3 with fail
 go_wp2_with (first
  | (refine ld 41 (.tmp 3) rfl rfl (by rfl) a2 underlying41 rfl a1 ?_)
  | (refine gF 83 _ rfl rfl (by rfl) R ?_))
 rw[<- J];clear J;go_ret;refine⟨_,rfl,?_,aB D O,D.size⟩;have h1:=H.out.keep (aB D O);have hb:=a0.out;rw[HG.out] at hb;exact⟨h1,hb,.inl ⟨rfl,rfl,rfl⟩,⟨Apart.fresh H.out.dk D.size,λhm=>by cases hm⟩,jm H.out.bel.size D.size,⟨Int.le_refl _,by show(0:Int)<=_;omega⟩,HS,HL,hN,hr⟩
theorem VV.opened{O d':DiskD}{gc gl gi bi n k':Nat}{C:CacheD}{I:Wd}(h:VV w0 I m gv k N key skew ⟨O,s.now,none⟩ (.pointer none) [])(hk:DK w' m' d')(ht:DT I m w' m')(hl:d'.sec.length=O.sec.length)(hr:d'.room<=200*k')(U:k<=k')
  (R:CK w' m' d' gc gl gi bi (O.sec.length/2) n C) (hn:n<=30+k') (h1:I.heap.size<=gc/\I.heap.size<=gl/\I.heap.size<=gi/\I.heap.size<=bi):
  VV w0 (w'.setCell ⟨gv,19,none⟩ (.pointer (some ⟨gc,0,none⟩))) m' gv k' N key skew ⟨d',s.now,some C⟩ (.pointer (some ⟨gc,0,none⟩)) [gl,bi,gc,gi]/\VT gv I m [] (w'.setCell ⟨gv,19,none⟩ (.pointer (some ⟨gc,0,none⟩))) m' [gl,bi,gc,gi]:=by
 obtain⟨D,Z⟩:=h.disk hk ht hl hr U;have a0:=h.blk.lt;have K:Off gv w' (w'.setCell ⟨gv,19,none⟩ (.pointer (some ⟨gc,0,none⟩))):=(Off.refl gv w').set _ _;have hb:=D.blk.set_ (16+3) (.pointer (some ⟨gc,0,none⟩));rw[DZ] at hb;have J:∀ b∈[gl,bi,gc,gi],I.heap.size<=b:=λb hb=>by
  simp at hb;rcases hb with rfl|rfl|rfl|rfl
  ·exact h1.2.1
  ·exact h1.2.2.2
  ·exact h1.1
  ·exact h1.2.2.1
 have V:=h.st.bel.size;refine⟨⟨⟨D.st.dk.offO K D.far.1,D.st.ft,D.st.bel.trans (K.below h.lo D.st.bel.size)⟩,hb,.inr ⟨gc,gl,gi,bi,C,rfl,rfl,rfl,?_,λb hb=>jm V (J b hb)⟩,⟨D.far.1,λhm=>by have:=J gv hm;omega⟩,h.lo,h.now,h.skew,D.len,h.few,hr⟩,⟨Z.ct.trans (CT.of_off K (List.mem_cons_self ..)),λb hb=>.inr (J b hb)⟩⟩;show CK _ m' d' gc gl gi bi (d'.sec.length/2) (30+k') C;rw[hl];exact(R.up hn).off K D.far.1 (by omega) (by omega) (by omega) (by omega)
theorem VG(h:VV w0 w m gv k N key skew s cv F)(hk:k<=200):Wc 15 #[.pointer (some ⟨gv,0,none⟩)] w λe w'=>e = .returned (bV (m7 skew s).1)/\∃ m' cv' F',VV w0 w' m' gv (k+1) N key skew (m7 skew s).2 cv' F'/\VT gv w m F w' m' F':=by
 obtain⟨c16,c17,c18,c19⟩:=h.cells;have d4:=h.blk.frozen 19;obtain⟨a4,b2⟩:=h.drop;obtain⟨w1,b9⟩:=je (w.setCell ⟨gv,19,none⟩ (.pointer none));rw[<- b9] at a4 b2;have a9:=jz (EG w1 m s.d a4.st.dk);obtain⟨d2,c4,b0,d3⟩:=a4.cells;obtain⟨g9,b3⟩:=je m.g;rw[<- b3] at c17 c4 a9;have R:=jz b3;have e7:=h.skew;have e0:=h.now;have c2:=jz a4;have c3:=jz b2;clear h a4 b2 b3;obtain⟨now,O⟩:=je s.now;replace b0:w1.cell? ⟨gv,18,none⟩=some (.int .i64 now):=by rw[O];exact b0
 rw[<- O] at c18 e0;have J:=jz O;clear O c16 c18;go_enter func15,ntmps15
 go_wp2_with fail
 rw[<- b9];clear b9 c17 c19 d4;refine a9.mono ?_;rintro e w2 ⟨rfl,b7,c9⟩;have I:=c2.disk b7 c9 rfl c2.rm (ja _);obtain⟨e2,c5,c6,e3⟩:=I.1.cells;replace c5:w2.cell? ⟨gv,17,none⟩=some (.pointer (some ⟨g9,0,none⟩)):=by rw[R.out];exact c5
 replace c6:w2.cell? ⟨gv,18,none⟩=some (.int .i64 now):=by rw[J.out];exact c6
 have f2:=I.1.blk.frozen 19;have e6:(dX s.d).room<=200*k:=I.1.rm;have e5:(dX s.d).sec.length=N:=I.1.len;have e4:=I.1.few;have U:=jz (UT skew now w2.drew m (dX s.d) I.1.drew.st.dk (by omega) (by omega) ⟨by omega,by omega⟩ ⟨by omega,by omega⟩);have a6:=jz (OO b7.ok.st);have a8:=jz (KS (dX s.d));have a7:=jz (rZ (dX s.d));rw[<- R.out] at U;have K:=jz I;clear I b7 c9 a9 d2 c4 b0 d3;have HR:Hid (m7 skew s=match (generalizing:=false) (cO (dX s.d)).2.2 with
  | none=>((cO (dX s.d)).1,⟨(cO (dX s.d)).2.1,s.now,none⟩)
  | some (L,es)=>((cO (dX s.d)).1,⟨(cO (dX s.d)).2.1,s.now,some ⟨L,bM (gW es) s.now,e9 s.now skew⟩⟩)):=jz rfl
 have d5:=a7.out;rcases d5 with ⟨x,h1,h2⟩|⟨L,es,h1,h2,h3⟩
 ·have a0:Hid (m7 skew s=(some x,⟨(cO (dX s.d)).2.1,s.now,none⟩)):=jz (by rw[HR.out,h2,h1]);rw[h1] at U;obtain⟨ty,u,hv⟩:=cH x;have d1:=jz hv;rw[hv] at U;have d7:=dR ty u;clear hv h1 h2 HR a7;go_wp2_with fail
  -- region 5a
  have a2:Hid (VC gv skew g9 now (.pointer none) w2.drew):=jz (by rw[R.out,J.out];exact K.out.1.drew.vc);refine kZ (n:=18) (VC gv skew g9 now (.pointer none)) (a2) (h:=λhH=>?_);refine qM 0 (.pointer (some ⟨gv,0,none⟩)) ?_;refine qT 1 (.pointer (some ⟨gv,0,none⟩)) ?_;refine qT 2 (.pointer (some ⟨gv,17,none⟩)) ?_;refine qC 3 (v:=.pointer (some ⟨g9,0,none⟩)) (λW hX=>hX.c17) ?_;refine qM 4 (.pointer (some ⟨gv,0,none⟩)) ?_;refine qT 5 (.pointer (some ⟨gv,0,none⟩)) ?_;refine qT 6 (.pointer (some ⟨gv,16,none⟩)) ?_;refine qC 7 (v:=.int .i64 skew) (λW hX=>hX.c16) ?_;refine qM 8 (.pointer (some ⟨gv,0,none⟩)) ?_;refine qT 9 (.pointer (some ⟨gv,0,none⟩)) ?_;refine qT 10 (.pointer (some ⟨gv,18,none⟩)) ?_;refine qC 11 (v:=.int .i64 now) (λW hX=>hX.c18) ?_;refine kF 12 (some 29) ((U).mono ?_);rintro e w3 ⟨pc,m3,rfl,V,D,_⟩;have Z:=K.out.1.drew.disk (k':=k+1) V D a8 (by have:=a6.out;omega) (by omega);have a1:=jz Z;have a3:Hid (VC gv skew g9 now (.pointer none) w3):=jz (by rw[R.out,J.out,<- D.g];exact Z.1.vc);clear V D Z;refine⟨_,rfl,a3,λhH=>?_⟩;simp only[jq];refine qM 13 (.tuple #[pc,.iface ty u]) ?_;refine qT 14 (pc) ?_;refine qT 15 (.iface ty u) ?_;refine qT 16 (pc) ?_;refine qT 17 (.iface ty u) ?_;refine kE (h:=?_);clear hH a2
  -- end of region 5a
  go_wp2_with fail
  go_ret;refine⟨by rw[a0.out];exact congrArg Ending.returned d1.symm,m3,.pointer none,[],?_,c3.trans (K.out.2.trans a1.out.2.undrew)⟩;rw[a0.out];exact a1.out.1
 ·have a0:Hid (m7 skew s=(none,⟨(cO (dX s.d)).2.1,s.now,some ⟨L,bM (gW es) s.now,e9 s.now skew⟩⟩)):=jz (by rw[HR.out,h2,h1]);have d0:bV none = .nilIface:=rfl;rw[h1,d0] at U;have d7:=jZ;have H2:=jz h2;have H3:=jz h3;clear h1 h2 h3 HR a7 d0;go_wp2_with fail
  -- region 5b
  have a2:Hid (VC gv skew g9 now (.pointer none) w2.drew):=jz (by rw[R.out,J.out];exact K.out.1.drew.vc);refine kZ (n:=18) (VC gv skew g9 now (.pointer none)) (a2) (h:=λhH=>?_);refine qM 0 (.pointer (some ⟨gv,0,none⟩)) ?_;refine qT 1 (.pointer (some ⟨gv,0,none⟩)) ?_;refine qT 2 (.pointer (some ⟨gv,17,none⟩)) ?_;refine qC 3 (v:=.pointer (some ⟨g9,0,none⟩)) (λW hX=>hX.c17) ?_;refine qM 4 (.pointer (some ⟨gv,0,none⟩)) ?_;refine qT 5 (.pointer (some ⟨gv,0,none⟩)) ?_;refine qT 6 (.pointer (some ⟨gv,16,none⟩)) ?_;refine qC 7 (v:=.int .i64 skew) (λW hX=>hX.c16) ?_;refine qM 8 (.pointer (some ⟨gv,0,none⟩)) ?_;refine qT 9 (.pointer (some ⟨gv,0,none⟩)) ?_;refine qT 10 (.pointer (some ⟨gv,18,none⟩)) ?_;refine qC 11 (v:=.int .i64 now) (λW hX=>hX.c18) ?_;refine kF 12 (some 29) ((U).mono ?_);rintro e w3 ⟨pc,m3,rfl,V,D,b1⟩;unfold z6 at b1;rw[H2.out] at b1;obtain⟨gc,gl,gi,bi,rfl,c7,g1,g2,g3,g4,_⟩:=b1;have Z:=K.out.1.drew.opened (k':=k+1) V D a8 (by have:=a6.out;omega) (by omega) c7 (by have:=H3.out;omega) ⟨g1,g2,g3,g4⟩;have a5:=(K.out.1.drew.disk (k':=k+1) V D a8 (by have:=a6.out;omega) (by omega)).1;have a3:Hid (VC gv skew g9 now (.pointer none) w3):=jz (by rw[R.out,J.out,<- D.g];exact a5.vc);have e1:=a5.cells.2.2.2;have f3:=a5.blk.frozen 19;have a1:=jz Z;clear V D c7 g1 g2 g3 g4 Z a5;refine⟨_,rfl,a3,λhH=>?_⟩;simp only[jq];refine qM 13 (.tuple #[.pointer (some ⟨gc,0,none⟩),.nilIface]) ?_;refine qT 14 (.pointer (some ⟨gc,0,none⟩)) ?_;refine qT 15 (.nilIface) ?_;refine qT 16 (.pointer (some ⟨gc,0,none⟩)) ?_;refine qT 17 (.nilIface) ?_;refine kE (h:=?_);clear hH a2
  -- end of region 5b
  go_wp2_with fail
  go_ret;refine⟨by rw[a0.out];rfl,m3,.pointer (some ⟨gc,0,none⟩),[gl,bi,gc,gi],?_,c3.trans (K.out.2.trans a1.out.2.undrew)⟩;rw[a0.out,<- J.out];have h:=a1.out.1;rw[<- J.out] at h;exact h
theorem VH(h:VV w0 w m gv k N key skew s cv F)(hk:k<=200):Wc 20 #[.pointer (some ⟨gv,0,none⟩)] w λe w'=>∃ v,e = .returned v/\Sn w' 33 v (jB s).length ((jB s).flatMap aO)/\∃ cv' F',VV w0 w' m gv k N key skew (aR s) cv' F'/\VT gv w m F w' m F':=by
 have D:=jz (vZ h);have HN:Hid ((aR s).now=s.now):=jz (nN s);clear h;have J:Hid (jB s=match (generalizing:=false) (aR s).co with|none=>[]|some C=>bM C.E s.now):=jz rfl;obtain⟨co,I⟩:=je ((aR s).co);rw[<- I] at D J;have a1:=jz I;clear I;cases co with
 | none=>
  have hb:(none:Option CacheD).isSome=false:=rfl;rw[hb] at D;clear hb;go_enter func20,ntmps20
  go_wp2_with fail
  refine D.mono ?_;rintro e w1 ⟨rfl,a2,F1,h1,O⟩;have V:=jz h1;have Z:=jz O;clear h1 O D;go_wp2_with fail
  go_ret;rw[J.out];exact⟨_,rfl,⟨none,0,rfl,ja _,rfl,λh=>absurd h (by simp)⟩,_,_,V,Z⟩
 | some C=>
  have hb:(some C:Option CacheD).isSome=true:=rfl;rw[hb] at D;clear hb;go_enter func20,ntmps20
  go_wp2_with fail
  refine D.mono ?_;rintro e w1 ⟨rfl,a2,F1,h1,O⟩;obtain⟨_,_,c18,c19⟩:=h1.cells;rw[HN.out] at c18;have I:=h1.co;rw[<- a1.out] at I;rcases I with ⟨_,_,hc⟩|⟨gc,gl,gi,bi,C',rfl,_,hc,U,_⟩
  ·cases hc
  injection hc with hc
  subst hc;have a0:=jz (UQ s.now (U.keep (ji _ _).drew) (by omega));have V:=jz h1;have Z:=jz O;clear h1 O D U;go_wp2_with fail
  -- region L
  have K:Hid (VC gv skew m.g s.now (.pointer (some ⟨gc,0,none⟩)) w1.drew):=jz (by rw[<- HN.out];exact V.out.drew.vc);refine kZ (n:=10) (VC gv skew m.g s.now (.pointer (some ⟨gc,0,none⟩))) (K) (h:=λhH=>?_);refine qM 0 (.pointer (some ⟨gv,0,none⟩)) ?_;refine qT 1 (.pointer (some ⟨gv,0,none⟩)) ?_;refine qT 2 (.pointer (some ⟨gv,19,none⟩)) ?_;refine qC 3 (v:=.pointer (some ⟨gc,0,none⟩)) (λW hX=>hX.c19) ?_;refine qM 4 (.pointer (some ⟨gv,0,none⟩)) ?_;refine qT 5 (.pointer (some ⟨gv,0,none⟩)) ?_;refine qT 6 (.pointer (some ⟨gv,18,none⟩)) ?_;refine qC 7 (v:=.int .i64 s.now) (λW hX=>hX.c18) ?_;refine kF 8 (some 14) ((a0).mono ?_);rintro e w2 ⟨v,rfl,hs,hb,_⟩;have HS:=jz hs;have HB:=jz hb;clear hs;refine⟨_,rfl,K.keep hb,λhH=>?_⟩;simp only[jq];refine qT 9 (v) ?_;refine kE (h:=?_);clear hH K
  -- end of region L
  go_wp2_with fail
  go_ret;rw[J.out];have R:=aB (ji _ w1).drew HB.out;exact⟨_,rfl,HS,_,_,V.out.keep R,Z.out.trans (VT.of_below R)⟩
end
end
section
open Go.RowKit
attribute [local irreducible] wpQuiet wpAnyH
def mE(gv:Nat)(bv:Value)(tk au:Wv):Wv:=[.pointer (some ⟨gv,0,none⟩),bv]++tk++au
theorem nO{g:Nat}{t:TypeId}:∀(new pre mid post:Wv) {w:Wd},mid.length=new.length->Blk w g t (pre++mid++post).toArray->Blk (w.setCells g pre.length new) g t (pre++new++post).toArray
 | [],pre,mid,post,w,hl,h=>by
  obtain rfl:mid=[]:=List.eq_nil_of_length_eq_zero hl;exact h
 | u :: new,pre,[],post,w,hl,h=>by simp at hl
 | u :: new,pre,m :: mid,post,w,hl,h=>by
  have h1:=h.set_ pre.length u;rw[List.setIfInBounds_toArray,List.append_assoc,List.set_append,jQ (by omega),Nat.sub_self] at h1;have I:Blk (w.setCell ⟨g,pre.length,none⟩ u) g t ((pre++[u])++mid++post).toArray:=by simpa using h1
  have D:=nO new (pre++[u]) mid post (by simpa using hl) I;rw[jj] at D;have e:pre++u :: new++post=(pre++[u])++new++post:=by simp
  rw[e];exact D
theorem dP(g:Nat):∀(vs:Wv) (o:Nat) {w W:Wd},Off g w W->Off g w (W.setCells g o vs)
 | [],o,w,W,h=>h
 | u :: vs,o,w,W,h=>dP g vs (o+1) (h.set o u)
theorem sB{gv:Nat}{bv:Value}{I D:Wv}(h1:I.length=20)(J:D.length=5):(mE gv bv I D).length=27:=by unfold mE;rw[jj,jj,h1,J];rfl
theorem rI{w:Wd}{g n o:Nat}{t:TypeId}{cs:Wv}(h:Blk w g t cs.toArray)(I:o+n<=cs.length):w.there g o n:=λj D=>⟨by rw[h.cell,jf,List.getElem?_eq_getElem (by omega)];rfl,h.frozen _⟩
structure AtX(ga gv:Nat)(bv:Value)(key:Nat->Nat)(W:Wd):Prop where
 c0:W.cell? ⟨ga,0,none⟩=some (.pointer (some ⟨gv,0,none⟩))
 c1:W.cell? ⟨ga,1,none⟩=some bv
 k:W.rangeAt gv 0 (arr 16 (c8 key))
theorem atX{ga gv:Nat}{bv:Value}{J D:Wv}{key:Nat->Nat}{W:Wd}(h:Blk W ga 96 (mE gv bv J D).toArray)(I:W.rangeAt gv 0 (arr 16 (c8 key))):AtX ga gv bv key W:=
 ⟨(h.cell 0).trans rfl,(h.cell 1).trans rfl,I⟩
theorem VI{P:Wv->Wv->Int->Wd->Prop}{ga gv:Nat}{A:Option Addr}{n cap:Nat}{tk0 au0:Wv}{key:Nat->Nat}{w:Wd}(hB:Blk w ga 96 (mE gv (.slice A n cap) tk0 au0).toArray)(b3:tk0.length=20)(a5:au0.length=5)(hk:w.rangeAt gv 0 (arr 16 (c8 key)))(a9:gv≠ga)
  (a4:∀ W,Bw w W->Wc 50 #[.agg (arr 16 (c8 key)).toArray,.slice A n cap] W λe W'=>∃ D I c,e = .returned (.tuple #[.agg D.toArray,.agg I.toArray,.int .i64 c])/\P D I c W'/\Bw W W')
  (hP:∀ D I c W,P D I c W->D.length=20/\I.length=5/\(∀ u∈D,u.oneCell'=true)/\(∀ u∈I,u.oneCell'=true)) (hS:∀ D I c W W',P D I c W->Off ga W W'->P D I c W'):
  Wc 34 #[.pointer (some ⟨ga,0,none⟩)] w λe w'=>∃ D I c,e = .returned (.int .i64 c)/\P D I c w'/\Blk w' ga 96 (mE gv (.slice A n cap) D I).toArray/\Off ga w w':=by
 have HB:=jz hB;have HK:=jz hk;have c9:=jz (a4 w.drew ((ji _ _).drew));have HP:=jz hP;have HS:=jz hS;have HL:=jz (And.intro b3 a5);have HX:Hid (AtX ga gv (.slice A n cap) key w.drew):=jz (atX (show Blk w.drew ga _ _ from hB) hk);clear hB hk a4 hP hS b3 a5;go_enter func34,ntmps34
 go_upto_region 2 with fail
 -- region
 refine kZ (n:=25) (AtX ga gv (.slice A n cap) key) (HX) (h:=λhH=>?_);refine qM 0 (.pointer (some ⟨ga,0,none⟩)) ?_;refine qM 1 (.pointer (some ⟨ga,0,none⟩)) ?_;refine qM 2 (.pointer (some ⟨ga,0,none⟩)) ?_;refine qT 3 (.pointer (some ⟨ga,0,none⟩)) ?_;refine qT 4 (.pointer (some ⟨ga,0,none⟩)) ?_;refine qC 5 (v:=.pointer (some ⟨gv,0,none⟩)) (λW hX=>hX.c0) ?_;refine qT 6 (.pointer (some ⟨gv,0,none⟩)) ?_;refine qT 7 (.pointer (some ⟨gv,0,none⟩)) ?_;refine qL 8 (cs:=arr 16 (c8 key)) (λW hX=>hX.k) (aA _ _) ?_;refine qM 9 (.pointer (some ⟨ga,0,none⟩)) ?_;refine qT 10 (.pointer (some ⟨ga,0,none⟩)) ?_;refine qT 11 (.pointer (some ⟨ga,1,none⟩)) ?_;refine qC 12 (v:=.slice A n cap) (λW hX=>hX.c1) ?_;refine kF 13 (some 18) ((c9).mono ?_);rintro e J ⟨D,I,c,rfl,hp,hb⟩;obtain⟨q1,q2,q3,q4⟩:=HP.out _ _ _ _ hp;have Z:Hid (Blk J ga 96 (mE gv (.slice A n cap) tk0 au0).toArray):=jz (Blk.keep (show Blk w.drew ga _ _ from HB) hb);have a0:Hid (J.rangeAt gv 0 (arr 16 (c8 key))):=jz (λj u hj=>j9 hb (HK j u hj));have d0:=jz (atX Z a0);have c7:=jz hp;have c3:=jz hb;clear hp hb;refine⟨_,rfl,d0,λhH=>?_⟩;simp only[jq];refine qM 14 (.tuple #[.agg D.toArray,.agg I.toArray,.int .i64 c]) ?_;refine qT 15 (.agg D.toArray) ?_;refine qT 16 (.agg I.toArray) ?_;refine qT 17 (.int .i64 c) ?_;refine qT 18 (.pointer (some ⟨ga,0,none⟩)) ?_;refine qT 19 (.pointer (some ⟨ga,2,none⟩)) ?_;have a3:=HL.out.1;have a1:=HL.out.2;have O:Blk (J.setCells ga 2 D) ga 96 (mE gv (.slice A n cap) D au0).toArray:=nO D [.pointer (some ⟨gv,0,none⟩),.slice A n cap] tk0 au0 (by omega) Z.out;have a2:Off ga J (J.setCells ga 2 D):=dP ga D 2 (Off.refl ga J);have a7:(J.setCells ga 2 D).rangeAt gv 0 (arr 16 (c8 key)):=λj u hj=>a2.cell (a0 j u hj) a9
 have b9:=atX O a7;refine kR 20 none (n:=20) (cs:=D) (rI Z (by rw[sB a3 a1];omega)) q1 q3 b9 (h:=?_);simp only[jq];refine qT 21 (.pointer (some ⟨ga,0,none⟩)) ?_;refine qT 22 (.pointer (some ⟨ga,22,none⟩)) ?_;have R:Blk ((J.setCells ga 2 D).setCells ga 22 I) ga 96 (mE gv (.slice A n cap) D I).toArray:=by
  have h:=nO I ([.pointer (some ⟨gv,0,none⟩),.slice A n cap]++D) au0 [] (by omega) (by simpa [mE] using O);have e:([Value.pointer (some ⟨gv,0,none⟩),.slice A n cap]++D).length=22:=by simp only[jj,List.length_cons,List.length_nil];omega
  rw[e,List.append_nil] at h;exact h
 have K:Off ga J ((J.setCells ga 2 D).setCells ga 22 I):=dP ga I 22 a2;have a8:((J.setCells ga 2 D).setCells ga 22 I).rangeAt gv 0 (arr 16 (c8 key)):=λj u hj=>K.cell (a0 j u hj) a9
 have c2:=atX R a8;refine kR 23 none (n:=5) (cs:=I) (rI O (by rw[sB q1 a1];omega)) q2 q4 c2 (h:=?_);simp only[jq];refine qT 24 (.int .i64 c) ?_;refine kE (h:=?_);obtain⟨w9,b7⟩:=je ((J.setCells ga 2 D).setCells ga 22 I);rw[<- b7] at R K ⊢;have U:=R;have V:Off ga w w9:=(Off.of_below (b:=ga) ((ji _ w).drew)).trans ((Off.of_below c3).trans K);have b1:=HS.out _ _ _ _ _ c7 K;clear b7 b9 c2 a7 a8 O a2 R K hH q1 q2 q3 q4 a3 a1
 -- end of region
 have a6:=U;have b0:=V;have b2:=b1;have c4:=jz a6;have c5:=jz b0;have c6:=jz b2;clear a6 b0 b2 U V b1;go_wp2_with fail
 go_ret;exact⟨_,_,_,rfl,c6,c4,c5⟩
def tkC(t:TkD)(v:Value):Wv:=[.string (bI t.client.realm),v,.int .i64 (t.start:Nat),.int .i64 (t.fin:Nat)]++arr 16 (c8 t.key)
theorem eO(t:TkD)(v:Value):(tkC t v).length=20:=by unfold tkC;rw[jj,aA];rfl
theorem eP{w:Wd}{base e s n:Nat}{v:Value}{D:Wv}(h:w.ownsRow base e s v n D):v.oneCell'=true:=by
 obtain⟨A,cap,rfl,_⟩:=bN h;rfl
theorem pU{t:TkD}{v:Value}(I:v.oneCell'=true):∀ u∈tkC t v,u.oneCell'=true:=λu D=>by
 unfold tkC at D;rcases List.mem_append.1 D with h|h
 ·simp only[jl,j8,or_false] at h;rcases h with rfl|rfl|rfl|rfl
  ·rfl
  ·exact I
  ·rfl
  ·rfl
 ·unfold arr at h;obtain⟨k,_,rfl⟩:=List.mem_map.1 h;rfl
def TkQ(w:Wd)(t:TkD)(ok:Bool)(e:Ending)(w':Wd):Prop:=Bw w w'/\∃ v,e = .returned (.tuple #[.agg (tkC t v).toArray,.bool ok])/\w'.ownsRow w.heap.size 9 1 v t.client.parts.length (fG t.client.parts)
theorem AH(n:Nat)(h:n<=1099511627776)(W:Wd):(convert 181 2 (.int .u64 (n:Int))).run prog W = .ok (.int .i64 (n:Int)) W:=by
 have h1:=run_convert_int (P:=prog) (w:=W) 181 2 .u64 (n:Int) (by kernel_rfl) (by kernel_rfl);have e:prog.intKind 2 = .i64:=by kernel_rfl
 rw[e] at h1;rw[h1,show IntKind.i64.wrap (n:Int)=(n:Int) from by
  unfold IntKind.wrap
  simp[IntKind.signed,IntKind.bits]
  omega]
theorem FZ{n:Nat}{s:RdS}(h:(cW n s).2.2=false):(cW n s).1.length=n:=by
 unfold cW at h ⊢;split
 ·rename_i D;show(s.1.take n).length=n;rw[jv];omega
 ·rename_i D;rw[jQ D] at h;cases h
theorem PK(S:ByteArray)(v:Value)(a b:Int):prog.built 53 [(0,.agg #[.string S,v]),(1,.int .i64 a),(2,.int .i64 b)]=some ([.string S,v,.int .i64 a,.int .i64 b]++arr 16 (c8 λ_=>0)).toArray:=by kernel_rfl
theorem F2(b:Wl)(A:Option Addr)(cap:Nat)(w:Wd)(hs:Sn w 1 (.slice A b.length cap) b.length (u8s b))(hb:Bys b)(hl:b.length<=1000000):
  Wc 116 #[.slice A b.length cap] w (TkQ w (tkR b).1 (tkR b).2):=by
 have R:Hid (tkR b=if (aF 1 (b,false)).1≠1 then (tk0,false)
  else if (dW (aF 1 (b,false)).2).1.2=false then (tk0,false)
  else if fU (cW 16 (aF 8 (aF 8 (dW (aF 1 (b,false)).2).2).2).2).2=false\/(aF 8 (aF 8 (dW (aF 1 (b,false)).2).2).2).1<(aF 8 (dW (aF 1 (b,false)).2).2).1\/1099511627776<(aF 8 (aF 8 (dW (aF 1 (b,false)).2).2).2).1 then (tk0,false)
  else (⟨(dW (aF 1 (b,false)).2).1.1,(aF 8 (dW (aF 1 (b,false)).2).2).1,(aF 8 (aF 8 (dW (aF 1 (b,false)).2).2).2).1,nth (i9 (cW 16 (aF 8 (aF 8 (dW (aF 1 (b,false)).2).2).2).2).1)⟩,true)):=jz (by unfold tkR;rfl)
 obtain⟨Z,hZ⟩:=je (tkR b);rw[<- hZ] at R ⊢;clear hZ;have n4:Hid (RdOk (b,false)):=jz ⟨hb,hl⟩;have HS:=jz hs;have b2:=jz (fun(W:Wd) (h:Bw w W)=>qK (.slice A b.length cap) b W (HS.below h) hl);obtain⟨n,hn⟩:=je b.length;rw[<- hn] at b2 ⊢;clear hs hb hl hn HS;obtain⟨PQ,k0⟩:=je (TkQ w Z.1 Z.2);have n6:=jz k0;rw[<- k0];clear k0;have t5:∀(fn:Fn) (first cap:Wa) (w:Wd),(Instr.makeFunc fn first cap).run prog w = .ok (.func fn first cap) w:=λ_ _ _ _=>rfl
 go_enter func116,ntmps116
 go_upto_region 1 with (refine al 53 tkZ rfl rfl iE ?_)
 obtain⟨w1,e3⟩:=je (w.alloc (.cells tkZ 53));obtain⟨g2,k3⟩:=je w.heap.size;have f5:Hid (Bw w w1):=jz (by rw[e3];exact aV _ _);have m8:Hid (Blk w1 g2 53 tkZ):=jz (by rw[e3,k3];exact Blk.new _ _ _);have a6:Hid (w.heap.size<=g2):=jz (by omega);have U:(prog.info? 53).map (·.size)=some tkZ.size:=by rw[eE];exact tkI
 rw[<- e3,<- k3];clear e3 k3;have V:Hid (∀(W:Wd),Z=(tk0,false)->Bw w W->PQ (.returned (.tuple #[.agg tkZ,.bool false])) W):=jz (λW hz hb=>by
  rw[n6.out,hz]
  exact⟨hb,_,rfl,World.ownsRow_nil _ _ _ _⟩)
 go_wp2_with fail
 refine(b2 w1 f5).mono ?_;rintro e w2 ⟨r,rfl,e2,r1,k1⟩;obtain⟨B,q0⟩:=je w2.heap.size;rw[<- q0] at e2;have t0:=jz e2;have f6:=jz (aB f5 k1);have m9:=jz (m8.keep k1);have HG:Hid (g2≠r/\w.heap.size<=r/\B<=w2.heap.size):=jz ⟨by have:=m8.lt;omega,jm f5.size r1,by omega⟩;have h4:=jz (fK 1 e2 n4 (by omega) (by omega));have d0:=jz (n4.num 1);obtain⟨x1,r2⟩:=je (aF 1 (b,false));rw[<- r2] at h4 d0 R;clear e2 r1 k1 r2 q0 b2;go_wp2_with fail
 refine h4.mono ?_;rintro e w3 ⟨I,q7,rfl⟩;have h5:=jz q7;have g3:=jz (I.blk m9 HG.out.1);have b0:=jz (f6.trans (I.below HG.out.2.1 f6.size));have m4:Hid (B<=w3.heap.size):=jz (jm HG.out.2.2 I.size);obtain⟨c,s1⟩:=x1;simp only at R h5 d0 ⊢;clear I q7 h4 t0 m9 f6;by_cases hc:c≠1
 ·have HZ:Hid (Z=(tk0,false)):=jz (by rw[R.out,jP hc]);have t1:¬(c:Int)=1:=by omega
  go_wp2_with (first
   | (refine gF 53 _ rfl rfl rfl kD ?_)
   | (refine aN 53 (.tmp 2) (.tmp 19) rfl rfl (by rfl) (by rfl) g3 U rfl fW ?_;intro w9 K O a8 c4))
  refine bodyPost_ret (aD (P:=prog) rfl _ rfl K.range underlying53 rfl (by rw[jk];exact U)) rfl ?_;exact V _ HZ (b0.trans (O.mono a6))
 rw[jQ hc] at R;have t1:(c:Int)=1:=by omega
 have b7:=jz (yJ h5 m4 d0);have d1:=jz (tD d0);obtain⟨x2,r3⟩:=je (dW s1);rw[<- r3] at b7 d1 R;clear r3 hc;go_wp2_with fail
 clear t1;refine b7.mono ?_;rintro e w4 ⟨I,q8,v,rfl,f4⟩;have d3:=jz q8;have g8:=jz (I.blk g3 HG.out.1);have m5:=jz (b0.trans (I.below HG.out.2.1 b0.size));have b9:=jz (aT f4 b0.size);obtain⟨⟨nm,ok⟩,s2⟩:=x2;simp only at R d3 d1 b9 ⊢;obtain⟨S,hS⟩:=je (bI nm.realm);have t3:=jz hS;rw[<- hS];clear I q8 b7 h5 g3 b0 f4 hS;obtain⟨VA,vc,rfl,_,_⟩:=bN b9.out;obtain⟨vn,m1⟩:=je nm.parts.length;have t4:=jz m1;rw[<- m1] at b9 ⊢;clear m1;go_upto_region 6 with fail
 obtain⟨w5,e4⟩:=je (w4.alloc (.cells #[.string S,.slice VA vn vc] 51));obtain⟨g6,k4⟩:=je w4.heap.size;have c3:Bw w4 w5:=by rw[e4];exact aV _ _
 have n2:Hid (Blk w5 g6 51 #[.string S,.slice VA vn vc]):=jz (by rw[e4,k4];exact Blk.new _ _ _);have h6:=jz (d3.keep c3);have h0:=jz (g8.keep c3);have c6:=jz (aB m5 c3);have d5:=jz (aE b9 c3);have g1:Hid (g6≠r/\g2≠g6):=jz (by have:=d3.lt;have:=g8.lt;exact⟨by omega,by omega⟩);rw[<- e4,<- k4];clear e4 k4 c3 d3 g8 m5 b9;cases ok with
 | false=>
  have HZ:Hid (Z=(tk0,false)):=jz (by rw[R.out,jP rfl]);go_wp2_with (first
   | (refine gF 53 _ rfl rfl rfl kD ?_)
   | (refine aN 53 (.tmp 2) (.tmp 27) rfl rfl (by rfl) (by rfl) h0 U rfl fW ?_;intro w9 K O a8 c4))
  refine bodyPost_ret (aD (P:=prog) rfl _ rfl K.range underlying53 rfl (by rw[jk];exact U)) rfl ?_;exact V _ HZ (c6.trans (O.mono a6))
 | true=>
  rw[jQ (by decide)] at R;have c7:=jz (fK 8 h6 d1 (by omega) (by omega));have d2:=jz (d1.num 8);obtain⟨x3,r4⟩:=je (aF 8 s2);rw[<- r4] at c7 d2 R;obtain⟨st,s3⟩:=x3;simp only at R d2 c7;clear r4;go_wp2_with fail
  refine c7.mono ?_;rintro e w6 ⟨I,k5,rfl⟩;have n7:=jz k5;have n0:=jz (I.blk h0 HG.out.1);have HNm6:=jz (I.blk n2 g1.out.1);have f7:=jz (c6.trans (I.below HG.out.2.1 c6.size));have d7:=jz (aS d5 (λb hb=>I.block b (d5.lt b hb).2 (λe=>cQ d5 h6.choose_spec.1.1 (by decide) (by rw[hb,e]))));have c9:=jz (fK 8 k5 d2 (by omega) (by omega));have b3:=jz (d2.num 8);obtain⟨x4,r5⟩:=je (aF 8 s3);rw[<- r5] at c9 b3 R;obtain⟨en,s4⟩:=x4;simp only at R b3 c9;clear r5 I k5 c7 h0 n2 h6 c6 d5;go_wp2_with fail
  refine c9.mono ?_;rintro e w7 ⟨I,k6,rfl⟩;have p6:=jz k6;have n1:=jz (I.blk n0 HG.out.1);have HNm7:=jz (I.blk HNm6 g1.out.1);have f8:=jz (f7.trans (I.below HG.out.2.1 f7.size));have e0:=jz (aS d7 (λb hb=>I.block b (d7.lt b hb).2 (λe=>cQ d7 n7.choose_spec.1.1 (by decide) (by rw[hb,e]))));have d4:=jz (M0 16 k6 b3 (by omega));have n3:=jz (b3.next 16);have h3:=jz (FZ (n:=16) (s:=s4));have h8:=jz (oG b3 16);obtain⟨x5,r6⟩:=je (cW 16 s4);rw[<- r6] at d4 n3 R h3 h8;obtain⟨ky,s5⟩:=x5;simp only at R n3 d4 h3 h8;clear r6 I k6 c9 n0 HNm6 n7 f7 d7;go_wp2_with fail
  refine d4.mono ?_;rintro e w8 ⟨I,r0,y,rfl,k7⟩;obtain⟨YA,yc,rfl,_⟩:=id k7;have h7:=jz k7;have a7:=jz (I.blk n1 HG.out.1);have HNm8:=jz (I.blk HNm7 g1.out.1);have a5:=jz (f8.trans (I.below HG.out.2.1 f8.size));have p9:=jz (aS e0 (λb hb=>I.block b (e0.lt b hb).2 (λe=>cQ e0 p6.choose_spec.1.1 (by decide) (by rw[hb,e]))));have HD:=jz (uM r0);obtain⟨dn,k2⟩:=je (fU s5);rw[<- k2] at HD R;have s8:=jz k2;clear I r0 k7 d4 n1 HNm7 p6 f8 e0 k2;cases dn with
  | false=>
   have HZ:Hid (Z=(tk0,false)):=jz (by rw[R.out,jP (.inl rfl)]);go_wp2_with fail
   refine HD.mono ?_;rintro e w9 ⟨rfl,rfl⟩;go_wp2_with (first
    | (refine gF 53 _ rfl rfl rfl kD ?_)
    | (refine aN 53 (.tmp 2) (.tmp 46) rfl rfl (by rfl) (by rfl) a7 U rfl fW ?_;intro w9 K O a8 c4))
   refine bodyPost_ret (aD (P:=prog) rfl _ rfl K.range underlying53 rfl (by rw[jk];exact U)) rfl ?_;exact V _ HZ (a5.trans (O.mono a6))
  | true=>
   go_wp2_with fail
   refine HD.mono ?_;rintro e w9 ⟨rfl,rfl⟩;clear HD;by_cases hse:en<st
   ·have HZ:Hid (Z=(tk0,false)):=jz (by rw[R.out,jP (.inr (.inl hse))]);have t1:(en:Int)<st:=by omega
    go_wp2_with (first
     | (refine gF 53 _ rfl rfl rfl kD ?_)
     | (refine aN 53 (.tmp 2) (.tmp 46) rfl rfl (by rfl) (by rfl) a7 U rfl fW ?_;intro w9 K O a8 c4))
    refine bodyPost_ret (aD (P:=prog) rfl _ rfl K.range underlying53 rfl (by rw[jk];exact U)) rfl ?_;exact V _ HZ (a5.trans (O.mono a6))
   have t1:¬(en:Int)<st:=by omega
   by_cases hmx:1099511627776<en
   ·have HZ:Hid (Z=(tk0,false)):=jz (by rw[R.out,jP (.inr (.inr hmx))]);have t2:(1099511627776:Int)<en:=by omega
    go_wp2_with (first
     | (refine gF 53 _ rfl rfl rfl kD ?_)
     | (refine aN 53 (.tmp 2) (.tmp 46) rfl rfl (by rfl) (by rfl) a7 U rfl fW ?_;intro w9 K O a8 c4))
    refine bodyPost_ret (aD (P:=prog) rfl _ rfl K.range underlying53 rfl (by rw[jk];exact U)) rfl ?_;exact V _ HZ (a5.trans (O.mono a6))
   have t2:¬(1099511627776:Int)<en:=by omega
   rw[jQ (λh=>by
    rcases h with h|h|h
    ·cases h
    ·exact hse h
    ·exact hmx h)] at R
   have h2:Hid (ky.length=16):=jz (h3 (FO s8.symm));have f3:=h2.out;rw[f3] at h7 ⊢;clear f3;have q5:=AH st (by omega);have q6:=AH en (by omega);have f9:=jz (PK S (.slice VA vn vc) (st:Nat) (en:Nat));have p7:Hid (w8.rangeAt g6 0 [.string S,.slice VA vn vc]):=jz HNm8.range;obtain⟨C,hC⟩:∃ C:Wv,C=[.string S,.slice VA vn vc,.int .i64 (st:Nat),.int .i64 (en:Nat)]++arr 16 (c8 λ_=>0):=⟨_,rfl⟩;have h9:C.length=20:=by rw[hC,jj,aA];rfl
   have q1:C.toArray.all (·.oneCell')=true:=all_oneCell_toArray (λu hu=>by
    rw[hC] at hu
    rcases List.mem_append.1 hu with h|h
    ·simp only[jl,j8,or_false] at h
     rcases h with rfl|rfl|rfl|rfl <;> rfl
    ·unfold arr at h
     obtain⟨k,_,rfl⟩:=List.mem_map.1 h
     rfl)
   have q2:(prog.info? 53).map (·.size)=some C.toArray.size:=by rw[js,h9];exact tkI
   have q3:tkZ.size=C.toArray.size:=by rw[eE,js,h9]
   rw[<- hC] at f9;have m6:=jz hC;have g0:=jz (And.intro q2 (And.intro q3 q1));clear hC h9 q2 q3 q1;go_upto_region 12 with fail
   clear t1 t2;go_upto_region 13 with (first
    | (refine ld 51 (.tmp 6) rfl rfl (by rfl) p7 underlying51 rfl mZ ?_)
    | (refine gF 53 _ rfl rfl rfl f9 ?_)
    | (refine al 53 tkZ rfl rfl iE ?_)
    | (refine bQ 53 (.tmp 11) (.tmp 52) rfl rfl (by rfl) (by rfl) g0.out.1 g0.out.2.1 g0.out.2.2 ?_;intro c5 c2 a0 r7))
   simp only[jq];obtain⟨J,f2⟩:=je w8.heap.size;rw[<- f2] at c2 ⊢;have a1:Hid (Blk c5 J 53 C.toArray):=jz c2;have e6:=jz (a7.keep a0);have a9:=jz (aB a5 a0);have a2:=jz (aE p9 a0);have e8:=jz (h7.below a0);have e5:Hid (g2≠J/\w.heap.size<=J):=jz (by have:=a7.lt;have:=a5.size;exact⟨by omega,by omega⟩);have p8:Hid (c5.there J 4 16):=jz (rI a1 (by have:=m6.out;rw[this,jj,aA];exact ja _));clear c2 a0 r7 f2 q5 q6 h7 a7 a5 p9 HNm8 p7 f9;go_upto_region 14 with (refine cp (.tmp 54) (.tmp 55) rfl (by rfl) (b:=J) (off:=4) (dn:=16) (dc:=16) (by rfl) (by rfl) underlying60 (by kernel_rfl) e8 (ja _) p8 (cI _) ?_)
   obtain⟨m2,a4⟩:=je (c5.setCells J 4 (u8s ky));have f1:Blk m2 J 53 (tkC ⟨nm,st,en,nth (i9 ky)⟩ (.slice VA vn vc)).toArray:=by
    have h:=nO (u8s ky) [.string S,.slice VA vn vc,.int .i64 (st:Nat),.int .i64 (en:Nat)] (arr 16 (c8 λ_=>0)) [] (w:=c5) (g:=J) (t:=53) (by rw[aA,aK,h2.out]) (by
     have h:=a1.out
     rw[m6.out] at h
     simpa using h)
    rw[List.append_nil] at h;rw[a4];have e:u8s ky=arr 16 (c8 (nth (i9 ky))):=by
     rw[pM h8.out.1];exact zG (by rw[dO];exact h2)
    unfold tkC;rw[<- e,<- t3.out];exact h
   have a3:Off J c5 m2:=by rw[a4];exact dP J _ 4 (Off.refl _ _)
   have e7:=jz (a3.blk e6 e5.out.1);have m3:=jz (a9.trans (a3.below e5.out.2 a9.size));have f0:=jz (aS a2 (λb hb=>a3.block b (a2.lt b hb).2 (λe=>cQ a2 a1 (by decide) (by rw[hb,e]))));obtain⟨D,hD⟩:=je (tkC ⟨nm,st,en,nth (i9 ky)⟩ (.slice VA vn vc));have e1:D.length=20:=by rw[hD];exact eO _ _
   have q4:D.toArray.all (·.oneCell')=true:=all_oneCell_toArray (by rw[hD];exact pU rfl);have b7:Hid (m2.rangeAt J 0 D):=jz (by have h:=f1.range;rw[jt,<- hD] at h;exact h);have b1:Hid ((prog.info? 53).map (·.size)=some D.length/\(prog.info? 53).map (·.size)=some D.toArray.size/\tkZ.size=D.toArray.size/\D.toArray.all (·.oneCell')=true):=jz ⟨by rw[e1];exact tkI,by rw[js,e1];exact tkI,by rw[eE,js,e1],q4⟩;have s0:=jz hD;rw[<- a4];clear f1 a3 a4 hD e1 q4 a1 e6 a9 a2 e8 p8;go_wp2_with (first
    | (refine ld 53 (.tmp 11) rfl rfl (by rfl) b7 underlying53 rfl b1.out.1 ?_)
    | (refine aN 53 (.tmp 2) (.tmp 57) rfl rfl (by rfl) (by rfl) e7 b1.out.2.1 b1.out.2.2.1 b1.out.2.2.2 ?_;intro w9 K O a8 c4))
   refine bodyPost_ret (aD (P:=prog) rfl _ rfl K.range underlying53 rfl (by rw[jt];exact b1.out.1)) rfl ?_;rw[n6.out,R.out];refine⟨m3.trans (O.mono a6),.slice VA vn vc,?_,?_⟩
   ·rw[jt,s0.out];rfl
   ·have h:=aS f0 (λb hb=>a8 b (λe=>cQ f0 e7 (by decide) (by rw[hb,e])));show w9.ownsRow _ _ 1 (.slice VA vn vc) nm.parts.length _;rw[<- t4.out];exact h
def auC(a:AuD)(v:Value):Wv:=[.string (bI a.client.realm),v,.int .i64 (a.time:Nat),.int .u32 (a.micro:Nat),.int .u32 (a.seq:Nat)]
theorem nP{a:AuD}{v:Value}(I:v.oneCell'=true):∀ u∈auC a v,u.oneCell'=true:=λu D=>by
 unfold auC at D;simp only[jl,j8,or_false] at D;rcases D with rfl|rfl|rfl|rfl|rfl
 ·rfl
 ·exact I
 ·rfl
 ·rfl
 ·rfl
def AuQ(w:Wd)(a:AuD)(ok:Bool)(e:Ending)(w':Wd):Prop:=Bw w w'/\∃ v,e = .returned (.tuple #[.agg (auC a v).toArray,.bool ok])/\w'.ownsRow w.heap.size 9 1 v a.client.parts.length (fG a.client.parts)
theorem PM(S:ByteArray)(v:Value)(a b c:Int):prog.built 55 [(0,.agg #[.string S,v]),(1,.int .i64 a),(2,.int .u32 b),(3,.int .u32 c)]=some #[.string S,v,.int .i64 a,.int .u32 b,.int .u32 c]:=by kernel_rfl
theorem D0(n:Nat)(h:n<4294967296)(W:Wd):(convert 181 34 (.int .u64 (n:Int))).run prog W = .ok (.int .u32 (n:Int)) W:=by
 have h1:=run_convert_int (P:=prog) (w:=W) 181 34 .u64 (n:Int) (by kernel_rfl) (by kernel_rfl);have e:prog.intKind 34 = .u32:=by kernel_rfl
 rw[e] at h1;rw[h1,show IntKind.u32.wrap (n:Int)=(n:Int) from by
  unfold IntKind.wrap
  simp[IntKind.signed,IntKind.bits]
  omega]
def sz3:Wa:=#[.int .i64 8,.int .i64 4,.int .i64 4]
theorem yQ(w:Wd):Wc 130 #[] w (Rt w (.agg sz3)):=by
 go_enter func130,ntmps130
 go_wp2
 exact bodyPost_ret (results_cell_row (P:=prog) rfl _ _ w.heap.size _ sz3 (0,0) _ rfl (heap_alloc_new w _) underlying229 rfl (by kernel_rfl)) rfl ⟨rfl,(ji _ w).alloc (ja _) _⟩
def szN(k:Nat):Nat:=if k=0 then 8 else 4
def AI(s:RdS):Nat->RdS
 | 0=>s
 | k+1=>(aF (szN k) (AI s k)).2
def nU(s:RdS)(k:Nat):Nat:=(aF (szN k) (AI s k)).1
theorem AJ{s:RdS}(h:RdOk s):∀ k,RdOk (AI s k)
 | 0=>h
 | k+1=>(AJ h k).num _
theorem TS(k:Nat)(I:k<3)(W:Wd):(Instr.index 229 (.agg #[.int .i64 8,.int .i64 4,.int .i64 4]) (.int .i64 (k:Int))).run prog W = .ok (.int .i64 ((szN k:Nat):Int)) W:=by
 refine fA _ k underlying229 I (λw=>by kernel_rfl) (λw=>by kernel_rfl) ?_ W;have D:k=0\/k=1\/k=2:=by omega
 rcases D with rfl|rfl|rfl <;> rfl
def LC(s:RdS)(k:Nat):Nat->Value:=λj=>.int .u64 ((if j<k then nU s j else 0:Nat):Int)
def fz3:Wa:=#[.int .u64 0,.int .u64 0,.int .u64 0]
theorem VJ:∀ w,(zeroValue 228).run prog w = .ok (.agg fz3) w:=λw=>by unfold fz3;kernel_rfl
theorem PO(s:RdS)(k j:Nat):aY (LC s k) k (.int .u64 ((nU s k:Nat):Int)) j=LC s (k+1) j:=by
 unfold aY LC;by_cases h:j=k
 ·subst h;rw[jP rfl,jP (Nat.lt_succ_self _)]
 ·rw[jQ h];by_cases h2:j<k
  ·rw[jP h2,jP (by omega)]
  ·rw[jQ h2,jQ (by omega)]
structure ApX(B:Nat)(w wr:Wd)(r g2 g5 g7 k:Nat)(nmv:Wa)(v:Value)(vn:Nat)(ps:Wv)(s:RdS):Prop where
 rd:RDB B wr r (AI s k)
 z:Blk wr g2 55 auZ
 n:Blk wr g5 51 nmv
 f:AB wr g7 228 3 (LC s k)
 bel:Bw w wr
 own:wr.ownsRow w.heap.size 9 1 v vn ps
theorem F3(b:Wl)(A:Option Addr)(cap:Nat)(w:Wd)(hs:Sn w 1 (.slice A b.length cap) b.length (u8s b))(hb:Bys b)(hl:b.length<=1000000):
  Wc 117 #[.slice A b.length cap] w (AuQ w (auR b).1 (auR b).2):=by
 have O:Hid (auR b=if (aF 1 (b,false)).1≠2 then (au0,false)
  else if (dW (aF 1 (b,false)).2).1.2=false then (au0,false)
  else if fU (AI (dW (aF 1 (b,false)).2).2 3)=false\/1099511627776<nU (dW (aF 1 (b,false)).2).2 0\/999999<nU (dW (aF 1 (b,false)).2).2 1 then (au0,false)
  else (⟨(dW (aF 1 (b,false)).2).1.1,nU (dW (aF 1 (b,false)).2).2 0,nU (dW (aF 1 (b,false)).2).2 1,nU (dW (aF 1 (b,false)).2).2 2⟩,true)):=jz (by unfold auR;rfl)
 obtain⟨Z,hZ⟩:=je (auR b);rw[<- hZ] at O ⊢;clear hZ;have f9:Hid (RdOk (b,false)):=jz ⟨hb,hl⟩;have HS:=jz hs;have a8:=jz (fun(W:Wd) (h:Bw w W)=>qK (.slice A b.length cap) b W (HS.below h) hl);obtain⟨n,hn⟩:=je b.length;rw[<- hn] at a8 ⊢;clear hs hb hl hn HS;obtain⟨PQ,e6⟩:=je (AuQ w Z.1 Z.2);have g0:=jz e6;rw[<- e6];clear e6;go_enter func117,ntmps117
 go_upto_region 1 with (refine al 55 auZ rfl rfl lZ ?_)
 obtain⟨w1,c7⟩:=je (w.alloc (.cells auZ 55));obtain⟨g2,f0⟩:=je w.heap.size;have d3:Hid (Bw w w1):=jz (by rw[c7];exact aV _ _);have f6:Hid (Blk w1 g2 55 auZ):=jz (by rw[c7,f0];exact Blk.new _ _ _);have a1:Hid (w.heap.size<=g2):=jz (by omega);have K:(prog.info? 55).map (·.size)=some auZ.size:=auI;rw[<- c7,<- f0];clear c7 f0;have R:Hid (∀(W:Wd),Z=(au0,false)->Bw w W->PQ (.returned (.tuple #[.agg auZ,.bool false])) W):=jz (λW hz hb=>by
  rw[g0.out,hz]
  exact⟨hb,_,rfl,World.ownsRow_nil _ _ _ _⟩)
 go_wp2_with fail
 refine(a8 w1 d3).mono ?_;rintro e w2 ⟨r,rfl,c6,k3,e7⟩;obtain⟨B,h6⟩:=je w2.heap.size;rw[<- h6] at c6;have m3:=jz c6;have d4:=jz (aB d3 e7);have f7:=jz (f6.keep e7);have HG:Hid (g2≠r/\w.heap.size<=r/\B<=w2.heap.size):=jz ⟨by have:=f6.lt;omega,jm d3.size k3,by omega⟩;have e0:=jz (fK 1 c6 f9 (by omega) (by omega));have c3:=jz (f9.num 1);obtain⟨x1,b0⟩:=je (aF 1 (b,false));rw[<- b0] at e0 c3 O;clear c6 k3 e7 b0 h6 a8;go_wp2_with fail
 refine e0.mono ?_;rintro e w3 ⟨U,k0,rfl⟩;have e2:=jz k0;have d5:=jz (U.blk f7 HG.out.1);have a6:=jz (d4.trans (U.below HG.out.2.1 d4.size));have d1:Hid (B<=w3.heap.size):=jz (jm HG.out.2.2 U.size);obtain⟨c,s1⟩:=x1;simp only at O e2 c3 ⊢;clear U k0 e0 m3 f7 d4;by_cases hc:c≠2
 ·have HZ:Hid (Z=(au0,false)):=jz (by rw[O.out,jP hc]);have t1:¬(c:Int)=2:=by omega
  go_wp2_with (first
   | (refine gF 55 _ rfl rfl rfl kG ?_)
   | (refine aN 55 (.tmp 2) (.tmp 15) rfl rfl (by rfl) (by rfl) d5 K rfl fX ?_;intro w9 I J a5 b2))
  refine bodyPost_ret (aD (P:=prog) rfl _ rfl I.range underlying55 rfl (by rw[jk];exact K)) rfl ?_;exact R _ HZ (a6.trans (J.mono a1))
 rw[jQ hc] at O;have t1:(c:Int)=2:=by omega
 have e4:=jz (yJ e2 d1 c3);have c4:=jz (tD c3);obtain⟨x2,b1⟩:=je (dW s1);rw[<- b1] at e4 c4 O;clear b1 hc;go_wp2_with fail
 clear t1;refine e4.mono ?_;rintro e w4 ⟨U,k1,v,rfl,d2⟩;have c5:=jz k1;have d7:=jz (U.blk d5 HG.out.1);have f4:=jz (a6.trans (U.below HG.out.2.1 a6.size));have a9:=jz (aT d2 a6.size);have g1:=jz U.size;obtain⟨⟨nm,ok⟩,s2⟩:=x2;simp only at O c5 c4 a9 ⊢;obtain⟨S,hS⟩:=je (bI nm.realm);have m6:=jz hS;rw[<- hS];clear U k1 e4 e2 d5 a6 d2 hS;obtain⟨VA,vc,rfl,_,_⟩:=bN a9.out;obtain⟨V,f3⟩:=je nm.parts.length;have m8:=jz f3;rw[<- f3] at a9 ⊢;clear f3;go_upto_region 5 with fail
 obtain⟨w5,c9⟩:=je (w4.alloc (.cells #[.string S,.slice VA V vc] 51));obtain⟨g5,f1⟩:=je w4.heap.size;have a3:Bw w4 w5:=by rw[c9];exact aV _ _
 have e1:Hid (Blk w5 g5 51 #[.string S,.slice VA V vc]):=jz (by rw[c9,f1];exact Blk.new _ _ _);have e3:=jz (c5.keep a3);have b9:=jz (d7.keep a3);have b3:=jz (aB f4 a3);have g8:=jz (aE a9 a3);have g3:Hid (w3.heap.size<=w5.heap.size):=jz (jm g1 a3.size);have k7:Hid (g5≠r/\g2≠g5):=jz (by have:=c5.lt;have:=d7.lt;exact⟨by omega,by omega⟩);rw[<- c9,<- f1];clear c9 f1 a3 c5 d7 f4 a9;cases ok with
 | false=>
  have HZ:Hid (Z=(au0,false)):=jz (by rw[O.out,jP rfl]);go_wp2_with (first
   | (refine gF 55 _ rfl rfl rfl kG ?_)
   | (refine aN 55 (.tmp 2) (.tmp 23) rfl rfl (by rfl) (by rfl) b9 K rfl fX ?_;intro w9 I J a5 b2))
  refine bodyPost_ret (aD (P:=prog) rfl _ rfl I.range underlying55 rfl (by rw[jk];exact K)) rfl ?_;exact R _ HZ (b3.trans (J.mono a1))
 | true=>
  rw[jQ (by decide)] at O;have m9:=b3.size;go_upto_region 8 with (refine al 228 fz3 rfl rfl VJ ?_)
  obtain⟨w6,d0⟩:=je (w5.alloc (.cells fz3 228));obtain⟨g7,f2⟩:=je w5.heap.size;have a4:Bw w5 w6:=by rw[d0];exact aV _ _
  have a2:Hid (g7≠r/\g2≠g7/\g5≠g7/\w.heap.size<=g7/\B<=g7):=jz (by have:=e3.lt;have:=b9.lt;have:=e1.lt;have:=d1.out;have:=HG.out.2.2;exact⟨by omega,by omega,by omega,by omega,by
   have h4:w3.heap.size<=w5.heap.size:=g3.out
   omega⟩)
  have h3:Hid (ApX B w w6 r g2 g5 g7 0 #[.string S,.slice VA V vc] (.slice VA V vc) V (fG nm.parts) s2):=jz ⟨e3.keep a4,b9.keep a4,e1.keep a4,by rw[d0,f2];exact Blk.new _ _ _,aB b3 a4,aE g8 a4⟩;rw[<- d0,<- f2];clear d0 f2 a4 e3 b9 e1 b3 g8 m9;go_wp2_with fail
  refine(yQ w6).mono ?_;rintro e w7 ⟨rfl,a0⟩;have h5:Hid (ApX B w w7 r g2 g5 g7 0 #[.string S,.slice VA V vc] (.slice VA V vc) V (fG nm.parts) s2):=jz (by
   have h:=h3.out
   exact⟨h.rd.keep a0,h.z.keep a0,h.n.keep a0,h.f.keep a0,aB h.bel a0,aE h.own a0⟩)
  clear a0 h3;unfold sz3;go_wp2_with fail
  go_loopw [25] (λi wr=>∃ k:Nat,k<=3/\i = .int .i64 k/\Hid (ApX B w wr r g2 g5 g7 k #[.string S,.slice VA V vc] (.slice VA V vc) V (fG nm.parts) s2)) (λi _=>3-(intOf i).toNat)
  case atStart=>exact⟨0,by omega,rfl,h5⟩
  case round=>
   clear h5;obtain⟨k,hk,rfl,D⟩:=hrel;rcases jo k 3 with h9|n3
   ·have n6:(k:Int)<3:=by omega
    have n4:(0:Int)<=k:=by omega
    have h8:=λW=>TS k h9 W
    have a7:=jz (fK (szN k) D.rd (AJ c4 k) (by unfold szN;split <;> omega) (by unfold szN;split <;> omega));have e5:Hid ((aF (szN k) (AI s2 k)).1=nU s2 k/\(aF (szN k) (AI s2 k)).2=AI s2 (k+1)):=jz ⟨rfl,rfl⟩;rw[e5.out.1,e5.out.2] at a7;obtain⟨z,hz⟩:=je (szN k);obtain⟨fv,e8⟩:=je (nU s2 k);rw[<- hz] at h8 a7;rw[<- e8] at a7;have f5:=jz e8;clear e5 hz e8;go_wp2_with fail
    refine a7.mono ?_;rintro e w8 ⟨U,k2,rfl⟩;have m4:=jz k2;have m1:=jz (U.blk D.z HG.out.1);have m2:=jz (U.blk D.n k7.out.1);have b7:Hid (AB w8 g7 228 3 (LC s2 k)):=jz (U.blk D.f a2.out.1);have k5:=jz (D.bel.trans (U.below HG.out.2.1 D.bel.size));have h0:=jz (aS D.own (λb hb=>U.block b (D.own.lt b hb).2 (λe=>cQ D.own D.rd.choose_spec.1.1 (by decide) (by rw[hb,e]))));have f8:=b7.frozen k;have c8:=b7.cell h9;unfold LC at c8;clear U k2 a7 D h8;go_wp2_with fail
    refine⟨⟨k+1,by omega,by go_num,jz ⟨?_,?_,?_,?_,?_,?_⟩⟩,by simp[intOf];omega⟩
    ·exact m4.put (Ne.symm a2.out.1) a2.out.2.2.2.2 _ _
    ·exact m1.far a2.out.2.1 _
    ·exact m2.far a2.out.2.2.1 _
    ·have h:=b7.set k (.int .u64 (fv:Nat));rw[f5.out] at h;exact(by rw[f5.out];exact h.ext (λj _=>PO s2 k j))
    ·exact k5.setCell a2.out.2.2.2.1 _ (p:=⟨g7,_,none⟩)
    ·exact ownsRow_setCell_other h0 (λe=>cQ h0 b7 (by decide) e.symm) _
   ·obtain rfl:k=3:=by omega
    have HD:=jz (uM D.rd);have h2:Hid (nU s2 2<256 ^ 4):=jz (CF (AJ c4 2) 4);have c0:wr.cell? ⟨g7,0,none⟩=some (.int .u64 ((nU s2 0:Nat):Int)):=D.f.cell (i:=0) (by omega);have c1:wr.cell? ⟨g7,1,none⟩=some (.int .u64 ((nU s2 1:Nat):Int)):=D.f.cell (i:=1) (by omega);have c2:wr.cell? ⟨g7,2,none⟩=some (.int .u64 ((nU s2 2:Nat):Int)):=D.f.cell (i:=2) (by omega);obtain⟨x0,k4⟩:=je (nU s2 0);obtain⟨x1,b0⟩:=je (nU s2 1);obtain⟨x2,b1⟩:=je (nU s2 2);obtain⟨dn,h7⟩:=je (fU (AI s2 3));rw[<- k4] at c0 O;rw[<- b0] at c1 O;rw[<- b1] at c2 O h2;rw[<- h7] at HD O;clear k4 b0 b1 h7;have m5:Hid (wr.rangeAt g5 0 [.string S,.slice VA V vc]):=jz D.n.range;cases dn with
    | false=>
     go_wp2_with fail
     refine HD.mono ?_;rintro e w9 ⟨rfl,rfl⟩;clear HD;have HZ:Hid (Z=(au0,false)):=jz (by rw[O.out,jP (.inl (by simp))]);go_wp2_with (first
      | (refine gF 55 _ rfl rfl rfl kG ?_)
      | (refine aN 55 (.tmp 2) (.tmp 48) rfl rfl (by rfl) (by rfl) D.z K rfl fX ?_;intro w9 I J a5 b2))
     refine bodyPost_ret (aD (P:=prog) rfl _ rfl I.range underlying55 rfl (by rw[jk];exact K)) rfl ?_;exact R _ HZ (D.bel.trans (J.mono a1))
    | true=>
     go_wp2_with fail
     refine HD.mono ?_;rintro e w9 ⟨rfl,rfl⟩;clear HD;by_cases hmx:1099511627776<x0
     ·have t1:(1099511627776:Int)<x0:=by omega
      have HZ:Hid (Z=(au0,false)):=jz (by rw[O.out,jP (.inr (.inl hmx))]);go_wp2_with (first
       | (refine gF 55 _ rfl rfl rfl kG ?_)
       | (refine aN 55 (.tmp 2) (.tmp 48) rfl rfl (by rfl) (by rfl) D.z K rfl fX ?_;intro w9 I J a5 b2))
      refine bodyPost_ret (aD (P:=prog) rfl _ rfl I.range underlying55 rfl (by rw[jk];exact K)) rfl ?_;exact R _ HZ (D.bel.trans (J.mono a1))
     have t1:¬(1099511627776:Int)<x0:=by omega
     by_cases hmi:999999<x1
     ·have t2:(999999:Int)<x1:=by omega
      have HZ:Hid (Z=(au0,false)):=jz (by rw[O.out,jP (.inr (.inr hmi))]);go_wp2_with (first
       | (refine gF 55 _ rfl rfl rfl kG ?_)
       | (refine aN 55 (.tmp 2) (.tmp 48) rfl rfl (by rfl) (by rfl) D.z K rfl fX ?_;intro w9 I J a5 b2))
      refine bodyPost_ret (aD (P:=prog) rfl _ rfl I.range underlying55 rfl (by rw[jk];exact K)) rfl ?_;exact R _ HZ (D.bel.trans (J.mono a1))
     have t2:¬(999999:Int)<x1:=by omega
     rw[jQ (λh=>by
      rcases h with h|h|h
      ·cases h
      ·exact hmx h
      ·exact hmi h)] at O
     have k6:=jz (PM S (.slice VA V vc) (x0:Nat) (x1:Nat) (x2:Nat));have n0:=AH x0 (by omega);have n1:=D0 x1 (by omega);have n2:=D0 x2 (by have:=h2.out;omega);go_upto_region 15 with fail
     clear t1 t2;go_wp2_with (first
      | (show wpList _ _ _ (_ :: _ :: _ :: []) _ _;refine R2 ?_)
      | (refine ld 51 (.tmp 5) rfl rfl (by rfl) m5 underlying51 rfl mZ ?_))
     unfold Stp;refine gF 55 _ rfl rfl rfl k6 ?_;refine aN 55 (.tmp 2) (.tmp 59) rfl rfl (by rfl) (by rfl) (cells:=#[.string S,.slice VA V vc,.int .i64 (x0:Nat),.int .u32 (x1:Nat),.int .u32 (x2:Nat)]) D.z auI rfl (by rw[List.all_toArray];rfl) ?_;intro w9 I J a5 b2;go_wp2_with fail
     refine bodyPost_ret (aD (P:=prog) rfl _ rfl I.range underlying55 rfl auI) rfl ?_;rw[g0.out,O.out];refine⟨D.bel.trans (J.mono a1),.slice VA V vc,?_,?_⟩
     ·unfold auC;rw[m6.out];rfl
     ·have h:=aS D.own (λb hb=>a5 b (λe=>cQ D.own D.z (by decide) (by rw[hb,e])));show w9.ownsRow _ _ 1 (.slice VA V vc) nm.parts.length _;rw[<- m8.out];exact h
structure PRow(w:Wd)(base:Nat)(v:Value)(ps:List (Value×List Nat)):Prop where
 row:w.ownsRow base 60 1 v ps.length (ps.map (·.1))
 part:∀ p∈ps,w.ownsRow base 5 1 p.1 p.2.length (n8 p.2)
theorem PRow.below{w w':Wd}{base:Nat}{v:Value}{ps:List (Value×List Nat)}(h:PRow w base v ps)(hb:Bw w w'):PRow w' base v ps:=
 ⟨aE h.row hb,λp D=>aE (h.part p D) hb⟩
theorem PRow.one{w:Wd}{base:Nat}{v:Value}{ps:List (Value×List Nat)}(h:PRow w base v ps):∀ u∈ps.map (·.1),u.oneCell'=true:=λu I=>by
 obtain⟨p,D,rfl⟩:=List.mem_map.1 I;exact eP (h.part p D)
theorem PRow.parts{w:Wd}{base:Nat}{v:Value}{ps:List (Value×List Nat)}(h:PRow w base v ps):Parts w v (ps.map λp=>(p.1,aG p.2)):=by
 refine⟨?_,λp D=>?_⟩
 ·rw[List.length_map,List.map_map];exact Sn.own h.row
 ·obtain⟨q,I,rfl⟩:=List.mem_map.1 D;have:=Sn.own (h.part q I);simp only[aL];rw[<- eI];exact this
theorem D1(ps:List (Value×List Nat)):cat (ps.map λp=>(p.1,aG p.2))=aG (ps.flatMap (·.2)):=by
 unfold cat;induction ps with
 | nil=>rfl
 | cons p ps ih=>
  rw[List.map_cons,List.flatMap_cons,ih,List.flatMap_cons];unfold aG;rw[List.map_append]
theorem wC(ps:List (Value×List Nat)):d9 (ps.map λp=>(p.1,aG p.2))=(ps.flatMap (·.2)).length:=by
 rw[<- n5,D1,aL]
theorem SQ(p:Bs):bn (bI p)=p.map (·.toNat):=rfl
structure NbX(w wr:Wd)(n:Nm)(g1 k:Nat)(nmv:Wa)(v:Value)(ps:List (Value×List Nat)):Prop where
 z:Blk wr g1 51 nmv
 bel:Bw w wr
 row:PRow wr w.heap.size v ps
 len:ps.length=k+2
 eq:ps.flatMap (·.2)=fF n.realm++n.parts.length :: (n.parts.take k).flatMap fF
theorem F4(n:Nm)(A:Option Addr)(cap:Nat)(w:Wd)(hn:NmOk n)(hs:Sn w 1 (.slice A n.parts.length cap) n.parts.length (fG n.parts)):
  Wc 126 #[.agg #[.string (bI n.realm),.slice A n.parts.length cap]] w λe w'=>∃ y,e = .returned (.tuple #[y,.bool true])/\w'.ownsRow w.heap.size 5 1 y (nmN n).length (n8 (nmN n))/\Bw w w':=by
 have HN:=jz hn;have HS:=jz hs;have HL:=jz (gG hn.realm);have HV:=jz (fun(W:Wd) (h:Bw w W)=>vV n A cap W hn (hs.below h));have e6:Hid (∀(p:Bs),eD p=true->∀(W:Wd) (v:Value),Sn W 1 v p.length (n8 (p.map (·.toNat)))->∀ l,l=p.length+1->Wc 173 #[.int .i64 1,v] W λe w'=>∃ y,e = .returned (.tuple #[y,.bool true])/\w'.ownsRow W.heap.size 5 1 y l (n8 (fF p))/\Bw W w'):=jz (λp hp W v h l hl=>by
  subst hl
  have h1:=O5 (p.map (·.toNat)) v W (by rw[List.length_map];exact h) (by rw[List.length_map];have:=gG hp;omega)
  rw[List.length_map] at h1
  exact h1)
 have e0:Hid (∀(p:Bs),eD p=true->∀ W:Wd,∃ v w',(convert 9 60 (.string (bI p))).run prog W = .ok v w'/\Sn w' 1 v p.length (n8 (p.map (·.toNat)))/\Bw W w'):=jz (λp hp W=>by
  have h1:=CC (bI p) W (by rw[x7];have:=gG hp;omega)
  rw[SQ,List.length_map] at h1
  exact h1)
 obtain⟨S,hS⟩:=je (bI n.realm);have hf:=hn.few;obtain⟨m,hm⟩:=je n.parts.length;have d7:Hid (∀ W:Wd,∃ v w',(convert 9 60 (.string S)).run prog W = .ok v w'/\Sn w' 1 v n.realm.length (n8 (n.realm.map (·.toNat)))/\Bw W w'):=jz (λW=>by
  have h:=e0.out n.realm hn.realm W
  rw[<- hS] at h
  exact h)
 rw[<- hS] at HV ⊢;rw[<- hm] at hf HS HV ⊢;have HM:=jz hm;have HI:Hid ((prog.info? 51).map (·.size)=some [Value.string S,.slice A m cap].length):=jz mZ;clear hn hs hS hm;obtain⟨g1,c9⟩:=je w.heap.size;obtain⟨w1,a7⟩:=je (w.alloc (.cells #[.string S,.slice A m cap] 51));have a9:Hid (Bw w w1):=jz (by rw[a7];exact aV _ _);have b3:Hid (Blk w1 g1 51 #[.string S,.slice A m cap]):=jz (by rw[a7,c9];exact Blk.new _ _ _);go_enter func126,ntmps126
 go_upto_region 1 with fail
 rw[<- a7,<- c9];clear a7 c9;have e5:Hid (w1.rangeAt g1 0 [.string S,.slice A m cap]):=jz b3.range;go_wp2_with (refine ld 51 (.tmp 1) rfl rfl (by rfl) e5 underlying51 rfl HI ?_)
 refine(HV w1 a9).mono ?_;rintro e w2 ⟨rfl,c5⟩;have b7:=jz (b3.keep c5);have d5:=jz (aB a9 c5);clear c5 b3 a9 e5;have c0:=b7.cell 0;simp only[jf,jg] at c0;obtain⟨cv,w3,Z,U,c6⟩:=d7.out w2;obtain⟨CA,cc,rfl,_⟩:=id U;obtain⟨ly,d3⟩:=je (n.realm.length+1);have f7:=jz d3;have J:=jz (e6 n.realm HN.realm w3 _ U ly d3);clear d3;have e3:=jz (b7.keep c6);have b0:=jz (aB d5 c6);clear U c6 b7 d5 d7;go_wp2_with fail
 clear Z c0;refine J.mono ?_;rintro e w4 ⟨y,rfl,I,c7⟩;obtain⟨YA,yc,rfl,_,_⟩:=bN I;have e8:=jz (aT I b0.size);have b9:=jz (e3.keep c7);have b1:=jz (aB b0 c7);clear I c7 J e3 b0;have c1:=b9.cell 1;simp only[jf,jh,jg] at c1;have Z:=IP m (by omega);have c3:=jz (jI 1 m w4 (by omega) (by omega) (by omega));have e1:((1:Nat):Int)=1:=rfl;rw[e1] at c3;clear e1;go_wp2_with fail
 clear Z c1;refine c3.mono ?_;rintro e w5 ⟨z,rfl,d4,a4⟩;obtain⟨ZA,zc,rfl,_,_⟩:=bN d4;have f2:=jz (aT d4 b1.size);have f0:=jz (aE e8 a4);have e4:=jz (b9.keep a4);have b2:=jz (aB b1 a4);clear d4 a4 c3 e8 b9 b1;go_upto_region 6 with fail
 obtain⟨w6,a8⟩:=je (w5.alloc (.cells #[.slice YA ly yc,.slice ZA 1 zc] 60));obtain⟨g8,d0⟩:=je w5.heap.size;have a1:Bw w5 w6:=by rw[a8];exact aV _ _
 have f4:u8s (beB 1 m)=n8 [m]:=by
  have h1:beB 1 m=[((m % 256:Nat):Int)]:=by unfold beB;simp[beB]
  rw[h1,Nat.mod_eq_of_lt (by omega)];rfl
 have c4:Hid (NbX w w6 n g1 0 #[.string S,.slice A m cap] (.slice (some ⟨g8,0,none⟩) 2 2) [(.slice YA ly yc,fF n.realm),(.slice ZA 1 zc,[m])]):=jz (by
  refine⟨e4.keep a1,aB b2 a1,⟨?_,λp hp=>?_⟩,rfl,?_⟩
  ·have h:=O4 w5 #[.slice YA ly yc,.slice ZA 1 zc] 60 1 2 w.heap.size g8 b2.size rfl (by unfold maxLen;omega) d0.symm
   rw[<- a8] at h
   exact h
  ·simp only[jl,j8,or_false] at hp
   rcases hp with rfl|rfl
   ·have h:=aE f0 a1
    have hl:(fF n.realm).length=ly:=by rw[f7.out];unfold fF;rw[List.length_cons,List.length_map]
    simp only[hl]
    exact h
   ·have h:=aE f2 a1
    rw[f4] at h
    exact h
  ·simp only[List.flatMap_cons,List.flatMap_nil,List.append_nil,List.take_zero]
   rw[<- HM.out])
 rw[<- a8,<- d0];clear a8 d0 a1 f0 f2 e4 b2 f4;have c1:=c4.z.cell 1;simp only[jf,jh,jg] at c1;go_wp2_with fail
 clear c1;go_loopw [37,8] (λi v0 wr=>∃(k:Nat) (v:Value) (ps:List (Value×List Nat)),v=v0/\k<=m/\i = .int .i64 k/\Hid (NbX w wr n g1 k #[.string S,.slice A m cap] v ps)) (λi _ _=>m-(intOf i).toNat)
 case atStart=>exact⟨0,_,_,rfl,j0 _,rfl,c4⟩
 case round=>
  clear c4;obtain⟨k,v,ps,rfl,hk,rfl,HX⟩:=hrel;rcases jo k m with g3|h3
  ·have d1:k<n.parts.length:=by rw[<- HM.out];exact g3
   obtain⟨b,off,rfl,hc⟩:=IQ (w:=wr) (A:=A) (cap:=cap) (by rw[<- HM.out];exact HS.below HX.bel) k d1;have a3:=HN.parts _ (List.getElem_mem d1);have e7:Hid ((n.parts.take (k+1)).flatMap fF=(n.parts.take k).flatMap fF++fF n.parts[k]):=jz (by rw[j6 d1,List.flatMap_append];simp);obtain⟨p,hp⟩:=je (n.parts[k]);rw[<- hp] at hc a3 e7;have h0:=jz a3;obtain⟨T,hT⟩:=je (bI p);obtain⟨cv,w7,Z,U,R⟩:=e0.out p a3 wr;rw[<- hT] at hc Z;obtain⟨CA,cc,rfl,_⟩:=id U;obtain⟨lp,d2⟩:=je (p.length+1);have f6:=jz d2;have J:=jz (e6 p a3 w7 _ U lp d2);clear d2;have O:Hid (NbX w w7 n g1 k #[.string S,.slice (some ⟨b,off,none⟩) m cap] v ps):=jz ⟨HX.z.keep R,aB HX.bel R,HX.row.below R,HX.len,HX.eq⟩;have h4:(0:Int)<=k:=by omega
   have h5:(k:Int)<m:=by omega
   clear hp a3 hT U R HX;go_wp2_with fail
   clear Z hc;refine J.mono ?_;rintro e w8 ⟨y,rfl,I,a5⟩;obtain⟨V,a0,rfl,_,_⟩:=bN I;have K:Hid (NbX w w8 n g1 k #[.string S,.slice (some ⟨b,off,none⟩) m cap] v ps):=jz ⟨O.z.keep a5,aB O.bel a5,O.row.below a5,O.len,O.eq⟩;have f1:=jz (aT I O.bel.size);clear I a5 J O;obtain⟨VA,vc,hv,_,_⟩:=bN K.row.row;subst hv;have a2:Bw w8 (w8.alloc (.cells #[.slice V lp a0] 60)):=aV _ _;have D:Hid (NbX w (w8.alloc (.cells #[.slice V lp a0] 60)) n g1 k #[.string S,.slice (some ⟨b,off,none⟩) m cap] (.slice VA ps.length vc) ps):=jz ⟨K.z.keep a2,aB K.bel a2,K.row.below a2,K.len,K.eq⟩;have g0:=jz (aE f1 a2);have c2:Hid (k<=8/\ps.length=k+2):=jz ⟨by omega,K.len⟩;clear a2 K f1;have f3:∀ u∈(#[.slice V lp a0]:Wa).toList,u.oneCell'=true:=λu hu=>by simp at hu;rw[hu];rfl
   go_wp2_with (refine app MU (.tmp 47) (.tmp 49) rfl rfl (by rfl) D.row.row (by rfl) (Sn.new w8 #[.slice V lp a0] 60 1 1 rfl) f3 (by have:=c2.out;unfold maxLen;omega) (by have:=c2.out;omega) D.bel.size ?_;intro v2 wA g2 a6 h2)
   have e:ps.length+1=(ps++[(Value.slice V lp a0,fF p)]).length:=by rw[jj];rfl
   refine⟨⟨k+1,v2,ps++[(.slice V lp a0,fF p)],rfl,by omega,by go_num,jz ⟨?_,?_,⟨?_,λq hq=>?_⟩,?_,?_⟩⟩,by simp[intOf];omega⟩
   ·exact i7 a6 D.row.row D.z (by decide)
   ·exact D.bel.grown a6 D.bel.size (λb hb=>(D.row.row.lt b hb).1)
   ·rw[<- e,List.map_append];exact g2
   ·rcases List.mem_append.1 hq with h1|h1
    ·exact vU a6 D.row.row (D.row.part q h1) (by decide)
    ·simp only[jl,j8,or_false] at h1;subst h1;have hl:(fF p).length=lp:=by rw[f6.out];unfold fF;rw[List.length_cons,List.length_map]
     have h:=vU a6 D.row.row g0 (by decide);simp only[hl];exact h
   ·rw[jj,c2.out.2];rfl
   ·rw[List.flatMap_append,D.eq,e7.out];simp
  ·obtain rfl:k=m:=by omega
   have hP:=HX.row.parts;have e2:Hid (ps.flatMap (·.2)=nmN n):=jz (by
    rw[HX.eq,List.take_of_length_le (by rw[<- HM.out];exact ja _)]
    rfl)
   have f8:=jz (tE HN);have HJ:=jz (kV _ _ wr hP (by rw[List.length_map,HX.len];omega) (by rw[wC,e2.out];have:=f8.out;omega));rw[wC,D1,e2.out,<- eI] at HJ;have HB:=jz HX.bel;clear hP HX;go_wp2_with fail
   refine HJ.mono ?_;rintro e w7 ⟨y,rfl,I,R⟩;have f9:=jz (aT I HB.size);have f5:=jz (aB HB R);clear I R HJ;go_wp2_with fail
   first|go_ret2|skip
   exact⟨y,rfl,f9,f5⟩
def XW(X:Nat->Prop)(w w2:Wd)(b:Nat):Prop:=X b\/(w.heap.size<=b/\b<w2.heap.size)
section
variable {w0 w w' : Wd} {gv g9 k N : Nat} {key : Nat -> Nat} {skew : Int} {s : VS} {X : Nat -> Prop}
theorem VE.off{g:Nat}(h:VE w0 w gv g9 k N key skew s X)(I:Off g w w')(hg:X g)(R:w0.heap.size<=g):VE w0 w' gv g9 k N key skew s X:=by
 obtain⟨m,cv,F,h1,D,O⟩:=h;have J:=(O g hg).1;have K:gv≠g:=λe=>J.2 (e ▸ List.mem_cons_self ..)
 exact⟨m,cv,F,h1,⟨⟨D.st.dk.offO I J.1,D.st.ft,D.st.bel.trans (I.below R D.st.bel.size)⟩,I.blk D.blk K,D.co.off I ⟨J.1,λU=>J.2 (List.mem_cons.2 (.inr U))⟩,D.far,D.lo,D.now,D.skew,D.len,D.few,D.rm⟩,λb hb=>⟨(O b hb).1,jp (O b hb).2 I.size⟩⟩
theorem VE.xw{D:Wd}(h:VE w0 w gv g9 k N key skew s X)(I:Bw w D):VE w0 D gv g9 k N key skew s (XW X w D):=h.add I (λb hb=>hb)
theorem VE.drew(h:VE w0 w gv g9 k N key skew s X):VE w0 w.drew gv g9 k N key skew s X:=h.keep (ji _ _).drew
theorem VE.now(h:VE w0 w gv g9 k N key skew s X):0<=s.now/\s.now<=1099511627776:=by
 obtain⟨m,cv,F,_,D,_⟩:=h;exact D.now
theorem VE.lo(h:VE w0 w gv g9 k N key skew s X):w0.heap.size<=w.heap.size:=h.bel.size
theorem F6(n:Int)(I:aI n)(h:VE w0 w gv g9 k N key skew s X):Wc 16 #[.pointer (some ⟨gv,0,none⟩),.int .i64 n] w λe w'=>e = .returned (.int .i64 (kI s.now n))/\VE w0 w' gv g9 k N key skew (pT s n) X/\XT X w w':=by
 obtain⟨m,cv,F,hg,J,K⟩:=h;refine(VF n I J).mono ?_;rintro e w' ⟨rfl,cv',F',h1,D⟩;exact⟨rfl,VE.of K hg h1 D⟩
theorem WK(h:VE w0 w gv g9 k N key skew s X):Wc 28 #[.pointer (some ⟨gv,0,none⟩)] w λe w'=>e = .returned (.int .i64 s.now)/\VE w0 w' gv g9 k N key skew (aR s) X/\XT X w w':=by
 obtain⟨m,cv,F,hg,I,J⟩:=h;refine(WJ I).mono ?_;rintro e w' ⟨rfl,cv',F',h1,D⟩;exact⟨rfl,VE.of J hg h1 D⟩
theorem F7(K:k<=60)(h:VE w0 w gv g9 k N key skew s X):Wc 20 #[.pointer (some ⟨gv,0,none⟩)] w λe w'=>∃ A c,e = .returned (.slice A (jB s).length c)/\Sn w' 33 (.slice A (jB s).length c) (jB s).length ((jB s).flatMap aO)/\VE w0 w' gv g9 k N key skew (aR s) X/\XT X w w':=by
 obtain⟨m,cv,F,hg,I,J⟩:=h;refine(VH I (by omega)).mono ?_;rintro e w' ⟨v,rfl,hs,cv',F',h1,D⟩;obtain⟨A,c,rfl,_⟩:=id hs;exact⟨A,c,rfl,hs,VE.of J hg h1 D⟩
theorem PP(K:k<=60)(h:VE w0 w gv g9 k N key skew s X):Wc 15 #[.pointer (some ⟨gv,0,none⟩)] w λe w'=>e = .returned (bV (m7 skew s).1)/\VE w0 w' gv g9 (k+1) N key skew (m7 skew s).2 X/\XT X w w':=by
 obtain⟨m,cv,F,hg,I,J⟩:=h;refine(VG I (by omega)).mono ?_;rintro e w' ⟨rfl,m',cv',F',h1,D⟩;exact⟨rfl,VE.of J hg h1 D⟩
end
end
section
open Go.RowKit
attribute [local irreducible] wpQuiet wpAnyH
def TkR(w:Wd)(r:TkD×Int)(e:Ending)(w':Wd):Prop:=Bw w w'/\∃ v,e = .returned (.tuple #[.agg (tkC r.1 v).toArray,.int .i64 r.2])/\w'.ownsRow w.heap.size 9 1 v r.1.client.parts.length (fG r.1.client.parts)
def AuR(w:Wd)(r:AuD×Int)(e:Ending)(w':Wd):Prop:=Bw w w'/\∃ v,e = .returned (.tuple #[.agg (auC r.1 v).toArray,.int .i64 r.2])/\w'.ownsRow w.heap.size 9 1 v r.1.client.parts.length (fG r.1.client.parts)
theorem lI{t:TkD}{v:Value}(D:v.oneCell'=true):(prog.info? 53).map (·.size)=some (tkC t v).toArray.size/\tkZ.size=(tkC t v).toArray.size/\(tkC t v).toArray.all (·.oneCell')=true/\(prog.info? 53).map (·.size)=some (tkC t v).length:=
 ⟨by rw[js,eO];exact tkI,by rw[eE,js,eO],all_oneCell_toArray (pU D),by rw[eO];exact tkI⟩
theorem wE{t:AuD}{v:Value}(D:v.oneCell'=true):(prog.info? 55).map (·.size)=some (auC t v).toArray.size/\auZ.size=(auC t v).toArray.size/\(auC t v).toArray.all (·.oneCell')=true/\(prog.info? 55).map (·.size)=some (auC t v).length:=
 ⟨auI,rfl,all_oneCell_toArray (nP D),auI⟩
theorem sC:(prog.info? 53).map (·.size)=some tkZ.size:=by rw[eE];exact tkI
theorem sD:(prog.info? 55).map (·.size)=some auZ.size:=auI
theorem LD(key:Nat->Nat)(s:Wl)(v:Value)(w:Wd)(a6:aQ key)(hk:TabK w)(hs:Sn w 1 v s.length (u8s s))(hb:Bys s)(hl:s.length<=1000000):
  Wc 75 #[.agg (arr 16 (c8 key)).toArray,v] w (TkR w (tkO key s)):=by
 have HQ:Hid (tkO key s=match iO key 2 (i9 s) with
  | none=>(tk0,2)
  | some b=>if (tkR (aG b)).2 then ((tkR (aG b)).1,0) else (tk0,1)):=jz (by unfold tkO;rfl)
 obtain⟨Z,hZ⟩:=je (tkO key s);rw[<- hZ] at HQ ⊢;clear hZ;have c5:=jA hb;have b1:=jz (fun(W:Wd) (hW:Bw w W)=>DH key 2 (i9 s) v W a6 (by decide) (hk.below hW) c5 (by rw[dO,<- pM hb];exact hs.below hW) (by rw[dO];exact hl));have a9:Hid (∀ b,iO key 2 (i9 s)=some b->Byn b/\b.length<=1000000):=jz (λb h=>by
  have:=pN c5 h
  rw[dO] at this
  exact⟨this.1,by omega⟩)
 obtain⟨o,ho⟩:=je (iO key 2 (i9 s));rw[<- ho] at HQ b1 a9;obtain⟨PQ,c2⟩:=je (TkR w Z);have b0:=jz c2;rw[<- c2];have d1:Hid ((prog.info? 41).map (·.size)=some (arr 16 (c8 key)).length):=jz (by rw[aA];kernel_rfl);obtain⟨w1,J⟩:=je (w.alloc (.cells (arr 16 (c8 key)).toArray 41));have d2:Hid (w1.rangeAt w.heap.size 0 (arr 16 (c8 key))):=jz (by rw[J];exact(AB.new w _ 16 _).range);have c7:Hid (Bw w w1):=jz (by rw[J];exact aV _ _);have e2:w1.heap.size=w.heap.size+1:=by rw[J];simp
 have d4:=jz e2;obtain⟨K,hK⟩:=je ((arr 16 (c8 key)).toArray);rw[<- hK] at J ⊢;clear c2 hK hs hb hl a6 hk c5 ho e2;go_enter func75,ntmps75
 go_upto_region 1 with (refine al 53 tkZ rfl rfl iE ?_)
 rw[<- J];clear J;obtain⟨w2,a5⟩:=je (w1.alloc (.cells tkZ 53));obtain⟨g4,a4⟩:=je (w.heap.size+1);have c3:Bw w1 w2:=by rw[a5];exact aV _ _
 have b2:Hid (Blk w2 g4 53 tkZ):=jz (by rw[a5,a4,<- d4.out];exact Blk.new _ _ _);have a7:=jz (aB c7 c3);have a8:Hid (w.heap.size<=g4):=jz (by rw[a4];omega);have d3:Hid (w2.rangeAt w.heap.size 0 (arr 16 (c8 key))):=jz (λj u hj=>j9 c3 (d2 j u hj));rw[<- a5];rw[<- a4];clear a5 a4 c3 d4 d2 c7;go_wp2_with (refine ld 41 (.tmp 2) rfl rfl (by rfl) d3 underlying41 rfl d1 ?_)
 refine(b1 w2 a7).mono ?_;clear b1 d1 d3;cases o with
 | none=>
  rintro e w3 ⟨I,rfl⟩;have a2:=jz (b2.keep I);have O:=jz (aB a7 I);clear I;go_wp2_with (first
   | (refine gF 53 _ rfl rfl rfl kD ?_)
   | (refine aN 53 (.tmp 4) (.tmp 17) rfl rfl (by rfl) (by rfl) a2 sC rfl fW ?_;intro w9 R U c6 e3))
  refine bodyPost_ret (aD (P:=prog) rfl _ rfl R.range underlying53 rfl (by rw[jk];exact sC)) rfl ?_;rw[b0.out,HQ.out];exact⟨O.trans (U.mono a8),.slice none 0 0,rfl,World.ownsRow_nil _ _ _ _⟩
 | some b=>
  rintro e w3 ⟨I,gb,rfl,e6,hB⟩;have a2:=jz (b2.keep I);have O:=jz (aB a7 I);have hN:=a9.out b rfl;have e0:Sn w3 1 (.slice (some ⟨gb,0,none⟩) b.length b.length) b.length (u8s (aG b)):=by
   refine⟨_,b.length,rfl,ja _,by rw[aK,aL,Nat.mul_one],λ_=>⟨gb,0,rfl,?_⟩⟩;have h:=hB.range;rw[jt,eI] at h;exact h
  have HP:=jz (F2 (aG b) (some ⟨gb,0,none⟩) b.length w3 (by rw[aL];exact e0) (fE hN.1) (by rw[aL];exact hN.2));rw[aL] at HP;have a1:Hid (Z=if (tkR (aG b)).2 then ((tkR (aG b)).1,0) else (tk0,1)):=jz HQ.out;obtain⟨x,hx⟩:=je (tkR (aG b));rw[<- hx] at HP a1;obtain⟨t,ok⟩:=x;simp only at HP a1;clear I e6 hB hN e0 hx a9 HQ b2;go_wp2_with fail
  refine HP.mono ?_;rintro e w4 ⟨c4,v4,rfl,a0⟩;obtain⟨VA,vc,rfl,_,_⟩:=bN a0;have D:=jz (lI (t:=t) (v:=.slice VA t.client.parts.length vc) rfl);have d5:=jz (a2.keep c4);have c9:=jz (aB O c4);have b7:=jz (aT a0 (jm O.size (ja _)));obtain⟨V,hV⟩:=je (Value.slice VA t.client.parts.length vc);obtain⟨C,hC⟩:=je (tkC t V);rw[<- hV] at D b7 ⊢;rw[<- hC] at D ⊢;have e4:=jz hC;clear c4 a0 hV hC HP a2 O;go_upto_region 5 with (first
   | (refine al 53 tkZ rfl rfl iE ?_)
   | (refine bQ 53 (.tmp 8) (.tmp 21) rfl rfl (by rfl) (by rfl) D.out.1 D.out.2.1 D.out.2.2.1 ?_;intro w5 b9 a3 e7))
  try simp only[jq]
  obtain⟨g8,e1⟩:=je w4.heap.size;rw[<- e1] at b9 ⊢;have e5:Hid (w5.rangeAt g8 0 C):=jz (by have h:=Blk.range (show Blk w5 g8 _ _ from b9);rwa [jt] at h);have b3:=jz (d5.keep a3);have d0:=jz (aB c9 a3);have d7:=jz (aE b7 a3);clear b9 a3 e7 e1 d5 c9 b7;cases ok with
  | false=>
   go_wp2_with (first
    | (refine gF 53 _ rfl rfl rfl kD ?_)
    | (refine aN 53 (.tmp 4) (.tmp 25) rfl rfl (by rfl) (by rfl) b3 sC rfl fW ?_;intro w9 R U c6 e3))
   refine bodyPost_ret (aD (P:=prog) rfl _ rfl R.range underlying53 rfl (by rw[jk];exact sC)) rfl ?_;rw[b0.out,a1.out];exact⟨d0.trans (U.mono a8),.slice none 0 0,rfl,World.ownsRow_nil _ _ _ _⟩
  | true=>
   go_wp2_with (first
    | (refine ld 53 (.tmp 8) rfl rfl (by rfl) e5 underlying53 rfl D.out.2.2.2 ?_)
    | (refine aN 53 (.tmp 4) (.tmp 26) rfl rfl (by rfl) (by rfl) b3 D.out.1 D.out.2.1 D.out.2.2.1 ?_;intro w9 R U c6 e3))
   refine bodyPost_ret (aD (P:=prog) rfl _ rfl R.range underlying53 rfl (by rw[jt];exact D.out.2.2.2)) rfl ?_;rw[b0.out,a1.out];refine⟨d0.trans (U.mono a8),V,?_,?_⟩
   ·rw[jt,e4.out];rfl
   ·exact aS d7 (λb hb=>c6 b (λe=>cQ d7 b3 (by decide) (by rw[hb,e])))
theorem LE(key:Nat->Nat)(s:Wl)(v:Value)(w:Wd)(a6:aQ key)(hk:TabK w)(hs:Sn w 1 v s.length (u8s s))(hb:Bys s)(hl:s.length<=1000000):
  Wc 76 #[.agg (arr 16 (c8 key)).toArray,v] w (AuR w (auO key s)):=by
 have HQ:Hid (auO key s=match iO key 11 (i9 s) with
  | none=>(au0,2)
  | some b=>if (auR (aG b)).2 then ((auR (aG b)).1,0) else (au0,1)):=jz (by unfold auO;rfl)
 obtain⟨Z,hZ⟩:=je (auO key s);rw[<- hZ] at HQ ⊢;clear hZ;have c5:=jA hb;have b1:=jz (fun(W:Wd) (hW:Bw w W)=>DH key 11 (i9 s) v W a6 (by decide) (hk.below hW) c5 (by rw[dO,<- pM hb];exact hs.below hW) (by rw[dO];exact hl));have a9:Hid (∀ b,iO key 11 (i9 s)=some b->Byn b/\b.length<=1000000):=jz (λb h=>by
  have:=pN c5 h
  rw[dO] at this
  exact⟨this.1,by omega⟩)
 obtain⟨o,ho⟩:=je (iO key 11 (i9 s));rw[<- ho] at HQ b1 a9;obtain⟨PQ,c2⟩:=je (AuR w Z);have b0:=jz c2;rw[<- c2];have d1:Hid ((prog.info? 41).map (·.size)=some (arr 16 (c8 key)).length):=jz (by rw[aA];kernel_rfl);obtain⟨w1,J⟩:=je (w.alloc (.cells (arr 16 (c8 key)).toArray 41));have d2:Hid (w1.rangeAt w.heap.size 0 (arr 16 (c8 key))):=jz (by rw[J];exact(AB.new w _ 16 _).range);have c7:Hid (Bw w w1):=jz (by rw[J];exact aV _ _);have e2:w1.heap.size=w.heap.size+1:=by rw[J];simp
 have d4:=jz e2;obtain⟨K,hK⟩:=je ((arr 16 (c8 key)).toArray);rw[<- hK] at J ⊢;clear c2 hK hs hb hl a6 hk c5 ho e2;go_enter func76,ntmps76
 go_upto_region 1 with (refine al 55 auZ rfl rfl lZ ?_)
 rw[<- J];clear J;obtain⟨w2,a5⟩:=je (w1.alloc (.cells auZ 55));obtain⟨g4,a4⟩:=je (w.heap.size+1);have c3:Bw w1 w2:=by rw[a5];exact aV _ _
 have b2:Hid (Blk w2 g4 55 auZ):=jz (by rw[a5,a4,<- d4.out];exact Blk.new _ _ _);have a7:=jz (aB c7 c3);have a8:Hid (w.heap.size<=g4):=jz (by rw[a4];omega);have d3:Hid (w2.rangeAt w.heap.size 0 (arr 16 (c8 key))):=jz (λj u hj=>j9 c3 (d2 j u hj));rw[<- a5];rw[<- a4];clear a5 a4 c3 d4 d2 c7;go_wp2_with (refine ld 41 (.tmp 2) rfl rfl (by rfl) d3 underlying41 rfl d1 ?_)
 refine(b1 w2 a7).mono ?_;clear b1 d1 d3;cases o with
 | none=>
  rintro e w3 ⟨I,rfl⟩;have a2:=jz (b2.keep I);have O:=jz (aB a7 I);clear I;go_wp2_with (first
   | (refine gF 55 _ rfl rfl rfl kG ?_)
   | (refine aN 55 (.tmp 4) (.tmp 17) rfl rfl (by rfl) (by rfl) a2 sD rfl fX ?_;intro w9 R U c6 e3))
  refine bodyPost_ret (aD (P:=prog) rfl _ rfl R.range underlying55 rfl (by rw[jk];exact sD)) rfl ?_;rw[b0.out,HQ.out];exact⟨O.trans (U.mono a8),.slice none 0 0,rfl,World.ownsRow_nil _ _ _ _⟩
 | some b=>
  rintro e w3 ⟨I,gb,rfl,e6,hB⟩;have a2:=jz (b2.keep I);have O:=jz (aB a7 I);have hN:=a9.out b rfl;have e0:Sn w3 1 (.slice (some ⟨gb,0,none⟩) b.length b.length) b.length (u8s (aG b)):=by
   refine⟨_,b.length,rfl,ja _,by rw[aK,aL,Nat.mul_one],λ_=>⟨gb,0,rfl,?_⟩⟩;have h:=hB.range;rw[jt,eI] at h;exact h
  have HP:=jz (F3 (aG b) (some ⟨gb,0,none⟩) b.length w3 (by rw[aL];exact e0) (fE hN.1) (by rw[aL];exact hN.2));rw[aL] at HP;have a1:Hid (Z=if (auR (aG b)).2 then ((auR (aG b)).1,0) else (au0,1)):=jz HQ.out;obtain⟨x,hx⟩:=je (auR (aG b));rw[<- hx] at HP a1;obtain⟨t,ok⟩:=x;simp only at HP a1;clear I e6 hB hN e0 hx a9 HQ b2;go_wp2_with fail
  refine HP.mono ?_;rintro e w4 ⟨c4,v4,rfl,a0⟩;obtain⟨VA,vc,rfl,_,_⟩:=bN a0;have D:=jz (wE (t:=t) (v:=.slice VA t.client.parts.length vc) rfl);have d5:=jz (a2.keep c4);have c9:=jz (aB O c4);have b7:=jz (aT a0 (jm O.size (ja _)));obtain⟨V,hV⟩:=je (Value.slice VA t.client.parts.length vc);obtain⟨C,hC⟩:=je (auC t V);rw[<- hV] at D b7 ⊢;rw[<- hC] at D ⊢;have e4:=jz hC;clear c4 a0 hV hC HP a2 O;go_upto_region 5 with (first
   | (refine al 55 auZ rfl rfl lZ ?_)
   | (refine bQ 55 (.tmp 8) (.tmp 21) rfl rfl (by rfl) (by rfl) D.out.1 D.out.2.1 D.out.2.2.1 ?_;intro w5 b9 a3 e7))
  try simp only[jq]
  obtain⟨g8,e1⟩:=je w4.heap.size;rw[<- e1] at b9 ⊢;have e5:Hid (w5.rangeAt g8 0 C):=jz (by have h:=Blk.range (show Blk w5 g8 _ _ from b9);rwa [jt] at h);have b3:=jz (d5.keep a3);have d0:=jz (aB c9 a3);have d7:=jz (aE b7 a3);clear b9 a3 e7 e1 d5 c9 b7;cases ok with
  | false=>
   go_wp2_with (first
    | (refine gF 55 _ rfl rfl rfl kG ?_)
    | (refine aN 55 (.tmp 4) (.tmp 25) rfl rfl (by rfl) (by rfl) b3 sD rfl fX ?_;intro w9 R U c6 e3))
   refine bodyPost_ret (aD (P:=prog) rfl _ rfl R.range underlying55 rfl (by rw[jk];exact sD)) rfl ?_;rw[b0.out,a1.out];exact⟨d0.trans (U.mono a8),.slice none 0 0,rfl,World.ownsRow_nil _ _ _ _⟩
  | true=>
   go_wp2_with (first
    | (refine ld 55 (.tmp 8) rfl rfl (by rfl) e5 underlying55 rfl D.out.2.2.2 ?_)
    | (refine aN 55 (.tmp 4) (.tmp 26) rfl rfl (by rfl) (by rfl) b3 D.out.1 D.out.2.1 D.out.2.2.1 ?_;intro w9 R U c6 e3))
   refine bodyPost_ret (aD (P:=prog) rfl _ rfl R.range underlying55 rfl (by rw[jt];exact D.out.2.2.2)) rfl ?_;rw[b0.out,a1.out];refine⟨d0.trans (U.mono a8),V,?_,?_⟩
   ·rw[jt,e4.out];rfl
   ·exact aS d7 (λb hb=>c6 b (λe=>cQ d7 b3 (by decide) (by rw[hb,e])))
def SR(gv:Nat)(bv:Value):Wa:=(mE gv bv tkZ.toList auZ.toList).toArray
theorem PR(gv:Nat)(A:Option Addr)(n cap:Nat):prog.built 96 [(0,.pointer (some ⟨gv,0,none⟩)),(1,.slice A n cap)]=some (SR gv (.slice A n cap)):=by unfold SR tkZ auZ;kernel_rfl
section
variable {w0 w w' : Wd} {gv g9 k N : Nat} {key : Nat -> Nat} {skew : Int} {s : VS} {X : Nat -> Prop}
theorem VE.krange(h:VE w0 w gv g9 k N key skew s X):w.rangeAt gv 0 (arr 16 (c8 key)):=by
 obtain⟨m,cv,F,hg,D,I⟩:=h;exact D.krange
theorem VE.gvlt(h:VE w0 w gv g9 k N key skew s X):gv<w.heap.size:=by
 obtain⟨m,cv,F,hg,D,I⟩:=h;exact D.blk.lt
theorem AK(h:VE w0 w gv g9 k N key skew s X):Wc 32 #[.pointer (some ⟨gv,0,none⟩)] w λe w'=>e = .returned (.tuple #[])/\VE w0 w' gv g9 k N key skew (aR s) X/\XT X w w':=by
 obtain⟨m,cv,F,hg,I,J⟩:=h;refine(AG I).mono ?_;rintro e w' ⟨rfl,cv',F',h1,D,_⟩;exact⟨rfl,VE.of J hg h1 D⟩
theorem D2{D W:Wd}{g:Nat}(h:Bw D W)(hg:D.heap.size<=g)(vs:Wv):Bw D (W.setCells g 0 vs):=h.trans ((dP g vs 0 (Off.refl g W)).below hg h.size)
theorem pV{W:Wd}{g t:Nat}{old:Wa}(new:Wv)(h:Blk W g t old)(D:old.size=new.length):Blk (W.setCells g 0 new) g t new.toArray:=by
 have:=nO new [] old.toList [] (w:=W) (g:=g) (t:=t) (by rw[jk];exact D) (by simpa using h);simpa using this
end
end
end Go.Proofs.YtjjlaipkkdncfaaGreatDoor
