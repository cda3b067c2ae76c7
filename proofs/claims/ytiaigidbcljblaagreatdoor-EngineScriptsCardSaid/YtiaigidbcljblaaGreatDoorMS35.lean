import Derived.Test.YtiaigidbcljblaaGreatDoorMS34
import Derived.Test.YtiaigidbcljblaaGreatDoorMS32
set_option linter.unusedVariables false
set_option linter.unusedSimpArgs false
set_option maxRecDepth 100000
set_option maxHeartbeats 40000000
namespace Go.Proofs.YtiaigidbcljblaaGreatDoor
open Go.Proofs.Tryz
section
open Go.RowKit
attribute [local irreducible] wpQuiet wpAnyH
theorem qE{w:Wd}{g:Nat}{c:ConfD}(h:Blk w g 45 (aY c).toArray):w.cell? ⟨g,16,none⟩=some (.int .i64 c.skew)/\w.cell? ⟨g,17,none⟩=some (.int .i64 c.sec)/\w.rangeAt g 0 (arr 16 (c8 c.key)):=by
 have h1:∀ j,(aY c).toArray[16+j]? = [Value.int .i64 c.skew,.int .i64 c.sec][j]?:=λj=>by
  unfold aY;rw[jf,jx (by rw[aB];omega),aB,Nat.add_sub_cancel_left]
 refine⟨(h.cell 16).trans (h1 0),(h.cell 17).trans (h1 1),λj u x=>?_⟩;have I:j<16:=by
  have:=(List.getElem?_eq_some_iff.1 x).1
  rwa [aB] at this
 have D:=h.cell j;rw[Nat.zero_add,D];unfold aY;rw[jf,jy (by rw[aB];exact I),x]
theorem jY(c:ConfD):(aY c).length=18:=by unfold aY;rw[jj,aB];rfl
theorem qF(c:ConfD)(w:Wd):Wc 17 #[.agg (aY c).toArray] w (Rt w (.bool (fV c))):=by
 obtain⟨w1,j⟩:=je (w.alloc (.cells (aY c).toArray 45));have I:Hid (Bw w w1):=jz (by rw[j];exact aH _ _);obtain⟨U,V,_⟩:=qE (w:=w1) (g:=w.heap.size) (c:=c) (by rw[j];exact Blk.new _ _ _);obtain⟨b,hb⟩:=je (fV c);rw[<- hb];obtain⟨K,hK⟩:=je (aY c);rw[<- hK] at j ⊢;obtain⟨key,sk,D⟩:=c;simp only at U V;have J:Hid (b=(decide (1<=sk) && (decide (sk<=1073741824) && (decide (2<=D) && decide (D<=4096))))):=jz hb;clear hb hK;rcases Int.lt_or_le sk 1 with O|O
 ·have x:Hid (false=b):=jz (by rw[J.out,decide_eq_false (by omega)];rfl);have u1:¬1<=sk:=by omega
  go_enter func17,ntmps17
  go_upto_region 1 with fail
  rw[<- j];clear j;go_wp2_with fail
  go_ret;exact⟨by rw[<- x.out];rfl,I⟩
 rcases Int.lt_or_le 1073741824 sk with R|R
 ·have x:Hid (false=b):=jz (by rw[J.out,decide_eq_true O,decide_eq_false (by omega)];rfl);have u1:¬sk<=1073741824:=by omega
  go_enter func17,ntmps17
  go_upto_region 1 with fail
  rw[<- j];clear j;go_wp2_with fail
  go_ret;exact⟨by rw[<- x.out];rfl,I⟩
 rcases Int.lt_or_le D 2 with Z|Z
 ·have x:Hid (false=b):=jz (by rw[J.out,decide_eq_true O,decide_eq_true R,decide_eq_false (by omega)];rfl);have u1:¬2<=D:=by omega
  go_enter func17,ntmps17
  go_upto_region 1 with fail
  rw[<- j];clear j;go_wp2_with fail
  go_ret;exact⟨by rw[<- x.out];rfl,I⟩
 rcases Int.lt_or_le 4096 D with t4|t4
 ·have x:Hid (false=b):=jz (by rw[J.out,decide_eq_true O,decide_eq_true R,decide_eq_true Z,decide_eq_false (by omega)];rfl);have u1:¬D<=4096:=by omega
  go_enter func17,ntmps17
  go_upto_region 1 with fail
  rw[<- j];clear j;go_wp2_with fail
  go_ret;exact⟨by rw[<- x.out];rfl,I⟩
 ·have x:Hid (true=b):=jz (by rw[J.out,decide_eq_true O,decide_eq_true R,decide_eq_true Z,decide_eq_true t4];rfl);go_enter func17,ntmps17
  go_upto_region 1 with fail
  rw[<- j];clear j;go_wp2_with fail
  go_ret;exact⟨by rw[<- x.out];rfl,I⟩
def F6(V:eK)(D:Bs->Prop)(T:Wd->Prop)(key:Nat->Nat)(skew:Int):Prop:=∀(w0 w:Wd) (gv g9 gm k N:Nat) (s:VS) (X:Nat->Prop) (x:OpR),T w0->D x.o.data->x.o.data.length<=131072->OpI w0 x->k<=50->VE w0 w gv g9 k N key skew s X->Blk w gm 106 (fA key g9 gv)->X gm ->
 Wc 43 #[.pointer (some ⟨gm,0,none⟩),.agg (opC x).toArray] w (MP w0 w gv g9 (k+1) N key skew X (V s (oG x.o.data)))
def doC:Wa:=#[.nilFunc,.func (.func 41) #[] #[],.func (.func 42) #[] #[],.func (.func 43) #[] #[],.func (.func 44) #[] #[],.func (.func 45) #[] #[],.func (.func 46) #[] #[]]
theorem MP.up{w0 w:Wd}{gv g9 k k' N:Nat}{key:Nat->Nat}{skew:Int}{X:Nat->Prop}{r:(Int×Wl)×VS}{e:Ending}{w':Wd}(h:MP w0 w gv g9 k N key skew X r e w')(j:k<=k'):MP w0 w gv g9 k' N key skew X r e w':=⟨h.1,h.2.1.up j,h.2.2⟩
theorem oL{o:OpD}(h:aD o=true):o.kind=1\/o.kind=2\/o.kind=3\/o.kind=4\/o.kind=5\/o.kind=6:=by
 unfold aD at h;simp only[Bool.and_eq_true] at h;have j:=h.2.2;split at j
 ·omega
 split at j
 ·omega
 split at j
 ·omega
 split at j
 ·omega
 split at j
 ·omega
 split at j
 ·omega
 ·cases j
theorem S3{o:OpD}(h:aD o=true):0<=o.n/\o.n<=1099511627776/\(o.kind=5\/o.kind=6->o.n<=1048576)/\o.data.length<=131072/\(o.kind=6->o.cuts.length<=20):=by
 unfold aD at h;simp only[Bool.and_eq_true,Bool.or_eq_true,beq_iff_eq] at h;obtain⟨hd,I,j⟩:=h;have x:o.kind≠3->o.data.length<=131072:=λD=>by
  rcases hd with h|h
  ·exact absurd h D
  ·rw[List.isEmpty_iff.1 h];simp
 split at j
 ·simp at j;exact⟨j.1,j.2,λh=>by omega,x (by omega),λh=>by omega⟩
 split at j
 ·simp at j;exact⟨by omega,by omega,λh=>by omega,x (by omega),λh=>by omega⟩
 split at j
 ·simp at j;exact⟨by omega,by omega,λh=>by omega,j.2,λh=>by omega⟩
 split at j
 ·simp at j;exact⟨by omega,by omega,λh=>by omega,x (by omega),λh=>by omega⟩
 split at j
 ·simp at j;exact⟨by omega,by omega,λ_=>by omega,x (by omega),λh=>by omega⟩
 split at j
 ·simp at j;exact⟨by omega,by omega,λ_=>by omega,x (by omega),λh=>j.2.2.2⟩
 ·cases j
theorem do_op{V:eK}{D:Bs->Prop}{T:Wd->Prop}{c:ConfD}(hV:F6 V D T c.key c.skew)(x:OpR)(hr:aD x.o=true)(hD:x.o.kind=3->D x.o.data):
  ∃ f,doC[x.o.kind.toNat]? = some (.func (.func f) #[] #[])/\(∀ args w,(callFunc f args).run prog w = .ok (.enter f args) w) /\
   ∀(w0 w:Wd) (gv g9 gm k N:Nat) (s:VS) (X:Nat->Prop),T w0->OpI w0 x->k<=50->VE w0 w gv g9 k N c.key c.skew s X->Blk w gm 106 (fA c.key g9 gv)->X gm ->
    Wc f #[.pointer (some ⟨gm,0,none⟩),.agg (opC x).toArray] w (MP w0 w gv g9 (k+1) N c.key c.skew X (k9 V c.skew s x.o)):=by
 obtain⟨h1,h2,U,Z,h5⟩:=S3 hr;have K:=oL hr;obtain⟨⟨kd,n,d,cs⟩,A,ca,B,cb⟩:=x;simp only at h1 h2 U Z h5 K hD;rcases K with rfl|rfl|rfl|rfl|rfl|rfl
 ·refine⟨41,rfl,λ_ _=>by kernel_rfl,λw0 w gv g9 gm k N s X R O K j J I=>?_⟩;exact(Y2 (n:=n) ⟨by omega,by omega⟩ j J I).mono λe w' h=>h.up (Nat.le_succ _)
 ·refine⟨42,rfl,λ_ _=>by kernel_rfl,λw0 w gv g9 gm k N s X R O K j J I=>?_⟩;exact Y3 (by omega) j J I
 ·refine⟨43,rfl,λ_ _=>by kernel_rfl,λw0 w gv g9 gm k N s X R O K j J I=>?_⟩;exact hV w0 w gv g9 gm k N s X ⟨⟨3,n,d,cs⟩,A,ca,B,cb⟩ R (hD rfl) Z O K j J I
 ·refine⟨44,rfl,λ_ _=>by kernel_rfl,λw0 w gv g9 gm k N s X R O K j J I=>?_⟩;exact OM (by omega) j J I
 ·refine⟨45,rfl,λ_ _=>by kernel_rfl,λw0 w gv g9 gm k N s X R O K j J I=>?_⟩;exact Y4 (n:=n) (by have:=U (by omega);omega) (by omega) j J I
 ·refine⟨46,rfl,λ_ _=>by kernel_rfl,λw0 w gv g9 gm k N s X R O K j J I=>?_⟩;exact WF (n:=n) cs rfl (O.2.below j.bel) (jm (h5 rfl) (by omega)) (by have:=U (by omega);omega) (by omega) j J I
def OQ(w:Wd)(r:Ans×List RowD)(e:Ending)(w':Wd):Prop:=match r.1 with
 | some x=>e = .returned (.tuple #[.slice none 0 0,.pointer none,bM (some x)])/\Bw w w'
 | none=>∃ v g,e = .returned (.tuple #[v,.pointer (some ⟨g,0,none⟩),.nilIface])/\w'.ownsRow w.heap.size 31 36 v r.2.length (r.2.flatMap d8)/\Bw w w'
theorem OR{l:List OpD}:∀ {k:Nat},(∀ j (h:j<l.length),j<k->aD l[j]=true)->∀(x:k<l.length),aD l[k]=false->oJ l=some k:=by
 intro k h x hb;unfold oJ;rw[List.findIdx?_eq_some_iff_getElem];refine⟨x,by rw[hb];rfl,λj D=>?_⟩;rw[h j (by omega) D];simp
theorem A9{l:List OpD}(h:∀ j (D:j<l.length),aD l[j]=true):oJ l=none:=by
 unfold oJ;rw[List.findIdx?_eq_none_iff];intro x I;obtain⟨j,D,rfl⟩:=List.getElem_of_mem I;rw[h j D];rfl
theorem BA(l:List OpR)(k:Nat)(h:k<l.length)(j:k<(aR l).length):(aR l)[k]=l[k].o:=by simp[aR]
theorem cG(l:List OpR):(aR l).length=l.length:=by simp[aR]
def doZ:Wa:=#[.nilFunc,.nilFunc,.nilFunc,.nilFunc,.nilFunc,.nilFunc,.nilFunc]
theorem Y6:∀ w,(zeroValue 109).run prog w = .ok (.agg doZ) w:=λw=>by unfold doZ;kernel_rfl
theorem WO:prog.built 109 [(1,.func (.func 41) #[] #[]),(2,.func (.func 42) #[] #[]),(3,.func (.func 43) #[] #[]),(4,.func (.func 44) #[] #[]),(5,.func (.func 45) #[] #[]),(6,.func (.func 46) #[] #[])]=some doC:=by unfold doC;kernel_rfl
theorem WP:doC.all (·.oneCell')=true:=by unfold doC;rw[List.all_toArray];rfl
theorem doI:(prog.info? 109).map (·.size)=some doC.size:=by unfold doC;kernel_rfl
theorem OS(key:Nat->Nat)(g9 gv:Nat):prog.built 106 [(0,.agg (arr 16 (c8 key)).toArray),(1,.pointer (some ⟨g9,0,none⟩)),(2,.pointer (some ⟨gv,0,none⟩))]=some (fA key g9 gv):=by unfold fA;kernel_rfl
theorem S4{kd c nw lv:Int}{d:Wl}(hd:d.length=32):prog.built 31 [(0,.int .i64 kd),(1,.int .i64 c),(2,.int .i64 nw),(3,.int .i64 lv),(4,.agg (u8s d).toArray)]=some (d8 ⟨kd,c,nw,lv,d⟩).toArray:=by
 obtain⟨D,j⟩:∃ D:Nat->Int,d=(List.range 32).map D:=⟨λi=>d.getD i 0,pH d 32 hd⟩;subst j;unfold d8 u8s
 kernel_rfl
theorem tRow:SlT prog 24 31 36 64:=SlT.mk' underlying24 (z:=.agg rowZ) (by unfold rowZ;kernel_rfl) (by unfold rowZ;rfl) (by decide)
section
variable {w0 w w' : Wd} {gv g9 k N : Nat} {key : Nat -> Nat} {skew : Int} {s : VS} {X Y : Nat -> Prop}
theorem VE.grown{v:Value}(h:VE w0 w gv g9 k N key skew s X)(hg:w.grownBy w' v.ownBlock)(O:∀ b,v.ownBlock=some b->X b/\w0.heap.size<=b)(hY:∀ b,Y b->X b\/(w.heap.size<=b/\b<w'.heap.size)):VE w0 w' gv g9 k N key skew s Y:=by
 have x:∀(m:DiskM) (cv:Value) (F:List Nat),VV w0 w m gv k N key skew s cv F->(∀ b,X b->Far m (gv :: F) b/\b<w.heap.size)->VV w0 w' m gv k N key skew s cv F->∀ b,Y b->Far m (gv :: F) b/\b<w'.heap.size:=λm cv F O V _ b hb=>by
  rcases hY b hb with h1|h1
  ·exact⟨(V b h1).1,jp (V b h1).2 hg.size⟩
  ·exact⟨O.far_new h1.1,h1.2⟩
 cases hb:v.ownBlock with
 | none=>
  rw[hb] at hg;have U:Bw w w':=(ji _ w).grown hg (ja _) (λb h=>by cases h);obtain⟨m,cv,F,h1,j,D⟩:=h;exact⟨m,cv,F,h1,j.keep U,x m cv F j D (j.keep U)⟩
 | some g=>
  rw[hb] at hg;have J:=Off.of_grown hg;obtain⟨Z,hl⟩:=O g hb;obtain⟨m,cv,F,h1,j,D⟩:=h;have R:VV w0 w' m gv k N key skew s cv F:=by
   have I:=(D g Z).1;have K:gv≠g:=λe=>I.2 (e ▸ List.mem_cons_self ..)
   exact⟨⟨j.st.dk.offO J I.1,j.st.ft,j.st.bel.trans (J.below hl j.st.bel.size)⟩,J.blk j.blk K,j.co.off J ⟨I.1,λhm=>I.2 (List.mem_cons.2 (.inr hm))⟩,j.far,j.lo,j.now,j.skew,j.len,j.few,j.rm⟩
  exact⟨m,cv,F,h1,R,x m cv F j D R⟩
theorem XT.blk{g t:Nat}{cs:Wa}(h:XT X w w')(x:X g)(j:Blk w g t cs):Blk w' g t cs:=(h.block g x).trans j
theorem XT.own{base e s n:Nat}{v:Value}{j:Wv}(h:XT X w w')(D:w.ownsRow base e s v n j)(x:∀ b,v.ownBlock=some b->X b):w'.ownsRow base e s v n j:=aQ D (λb hb=>h.block b (x b hb))
theorem XT.less(h:XT X w w')(j:∀ b,Y b->X b):XT Y w w':=⟨h.size,λb hb=>h.block b (j b hb)⟩
end
theorem mE{w w':Wd}{base e s n g t:Nat}{v:Value}{I:Wv}{cs:Wa}(hg:w.grownBy w' v.ownBlock)(D:w.ownsRow base e s v n I)(j:Blk w g t cs)(x:t≠e):Blk w' g t cs:=(hg.block g j.lt (SO D j x)).trans j
structure RwX(gO gm g16 gv:Nat)(kd:Int)(dig:Wl)(W:Wd):Prop where
 o:W.cell? ⟨gO,0,none⟩=some (.int .i64 kd)
 m:W.cell? ⟨gm,17,none⟩=some (.pointer (some ⟨gv,0,none⟩))
 d:W.rangeAt g16 0 (u8s dig)
theorem rwX{D gm j gv g9:Nat}{key:Nat->Nat}{dig:Wl}{x:OpR}{W:Wd}(h1:Blk W D 71 (opC x).toArray)(I:Blk W gm 106 (fA key g9 gv))(J:Blk W j 26 (u8s dig).toArray):RwX D gm j gv x.o.kind dig W:=
 ⟨(h1.cell 0).trans rfl,(dV I).2.1,by have:=J.range;rwa [jt] at this⟩
def OpP(w0 wN:Wd)(gv g9 k N:Nat)(key:Nat->Nat)(skew:Int)(X:Nat->Prop)(r:(Int×Wl)×VS)(v15 v16:Value)(wx:Wd):Prop:=
 ∃ g16,v15 = .int .i64 r.1.1/\v16 = .pointer (some ⟨g16,0,none⟩)/\Blk wx g16 26 (u8s r.1.2).toArray/\VE w0 wx gv g9 k N key skew r.2 (λb=>X b\/b=g16)/\XT X wN wx
theorem WQ{W:Wd}{g t:Nat}{old:Wa}(new:Wv)(h:Blk W g t old)(x:old.size=new.length):Blk (W.setCells g 0 new) g t new.toArray:=by
 have key:∀(new j mid:Wv) {w:Wd},mid.length=new.length->Blk w g t (j++mid).toArray->Blk (w.setCells g j.length new) g t (j++new).toArray:=by
  intro new;induction new with
  | nil=>
   intro j mid w x h;obtain rfl:mid=[]:=List.eq_nil_of_length_eq_zero x;exact h
  | cons u new ih=>
   intro j mid w x h;cases mid with
   | nil=>simp at x
   | cons m mid=>
    have h1:=h.set_ j.length u;rw[List.setIfInBounds_toArray,List.set_append,jQ (by omega),Nat.sub_self] at h1;have D:=ih (j++[u]) mid (w:=w.setCell ⟨g,j.length,none⟩ u) (by simpa using x) (by simpa using h1);rw[jj] at D;have e:j++u :: new=(j++[u])++new:=by simp
    rw[e];exact D
 have:=key new [] old.toList (w:=W) (by rw[jk];exact x) (by simpa using h);simpa using this
theorem LR{w0 D x:Wd}{gv g9 k N j:Nat}{key:Nat->Nat}{skew:Int}{X:Nat->Prop}{r:(Int×Wl)×VS}(R:∀ b,X b->b<D.heap.size)(U:w0.heap.size<=D.heap.size)(I:D.heap.size<=j)(O:Blk x j 26 dZ)(V:VE w0 x gv g9 k N key skew r.2 (λb=>X b\/b=j))(K:XT X D x)(hd:r.1.2.length=32):
  OpP w0 D gv g9 k N key skew X r (.int .i64 r.1.1) (.pointer (some ⟨j,0,none⟩)) (x.setCells j 0 (u8s r.1.2)):=by
 have J:=cD j (u8s r.1.2) 0 x;refine⟨j,rfl,rfl,WQ _ O ?_,V.off J (.inr rfl) (jm U I),⟨jm K.size J.size,λb hb=>?_⟩⟩
 ·rw[aJ,hd];unfold dZ;rfl
 ·have h1:=R b hb;exact(J.block b (jp h1 K.size) (by omega)).trans (K.block b hb)
structure OpsX(gO gd:Nat)(x:OpR)(f:FuncId)(W:Wd):Prop where
 o:W.rangeAt gO 0 (opC x)
 d:W.cell? ⟨gd,x.o.kind.toNat,none⟩=some (.func (.func f) #[] #[])
theorem F7{j gd:Nat}{x:OpR}{f:FuncId}{W:Wd}(h1:Blk W j 71 (opC x).toArray)(D:Blk W gd 109 doC)(I:doC[x.o.kind.toNat]? = some (.func (.func f) #[] #[])):OpsX j gd x f W:=
 ⟨by have:=h1.range;rwa [jt] at this,(D.cell _).trans I⟩
theorem C1{W:Wd}{j:Nat}(h:Blk W j 26 dZ){g t:Nat}{cs:Wa}(k:Blk W g t cs)(x:t≠26):g≠j:=λe=>by
 subst e;unfold Blk at h k;rw[h] at k;injection k with k
 injection k with _ k _
 exact x k.symm
theorem F8{P:Program}{a:Act}{o:Oper}{t:TypeId}{x:Operand}{z v:Value}{w w':Wd}(j:o.op = .buildSlice t 1 #[(0,x)])(D:a.eval x=z)(h:(Instr.buildSlice t 1 #[(0,z)]).run P w = .ok v w'):(execOp a.eval o).run P w = .ok (.value v) w':=by
 subst D;unfold execOp;simp only[j,Sem.run_bind,List.map_toArray,List.map_cons,List.map_nil,h,Result.andThen_ok];rfl
theorem S5{P:Program}{a:Act}{o:Oper}{t:TypeId}{p q:Operand}{x y v:Value}{w w':Wd}(j:o.op = .call { callee:=.builtin .append,args:=#[p,q],argTypes:=#[t,t] })(D:a.eval p=x)(hy:a.eval q=y)(h:(Builtin.append_ #[t,t] o.type #[x,y]).run P w = .ok v w'):(execOp a.eval o).run P w = .ok (.value v) w':=by
 subst D hy;unfold execOp;simp only[j,resolve,invoke,builtin,Sem.run_bind,Sem.run_pure,Result.andThen_ok,List.map_toArray,List.map_cons,List.map_nil,h]
end
section
open Go.RowKit
attribute [local irreducible] wpQuiet wpAnyH
def RLb(gm gd:Nat)(v:Value)(b:Nat):Prop:=b=gm\/b=gd\/v.ownBlock=some b
def JR(n:Nat)(x:RowD):Prop:=(0<=x.now/\x.now<=1099511627776)/\0<=x.live/\x.live<=30+n
theorem VE.lv{w0 w:Wd}{gv g9 k N:Nat}{key:Nat->Nat}{skew:Int}{s:VS}{X:Nat->Prop}(h:VE w0 w gv g9 k N key skew s X):(0<=s.now/\s.now<=1099511627776)/\(gA s).length<=30+k:=by
 obtain⟨m,cv,F,_,D,_⟩:=h;refine⟨D.now,?_⟩;unfold gA aN;by_cases hd:s.d.down
 ·rw[jP hd];exact j0 _
 ·rw[jQ hd];rcases D.co with ⟨_,_,j⟩|⟨gc,gl,gi,bi,C,_,_,j,x,_⟩
  ·rw[j];exact j0 _
  ·rw[j];exact jm (List.length_filter_le _ _) x.ix.len
structure RLX(V:eK)(c:ConfD)(w0 wr:Wd)(gv g9 gm gd N k:Nat)(l:List OpD)(v:Value):Prop where
 ve:VE w0 wr gv g9 k N c.key c.skew (oI V c.skew ⟨eV N,0,none⟩ (l.take k)) (RLb gm gd v)
 own:wr.ownsRow w0.heap.size 31 36 v k ((fI V c.skew ⟨eV N,0,none⟩ (l.take k)).flatMap d8)
 m:Blk wr gm 106 (fA c.key g9 gv)
 d:Blk wr gd 109 doC
 lv:∀ x∈fI V c.skew ⟨eV N,0,none⟩ (l.take k),JR k x
theorem F9{V:eK}{D:Bs->Prop}{T:Wd->Prop}{c:ConfD}(A:Option Addr)(cap:Nat)(l:List OpR)(w:Wd)(hV:F6 V D T c.key c.skew)(z9:∀ s b,(V s b).1.2.length=32)(hT:∀ W,Bw w W->T W)(hs:Sn w 4 (.slice A l.length cap) l.length (l.flatMap opC))(B1:∀ x∈l,OpI w x)
  (hd:∀ x∈l,x.o.data.length<=9223372036854775807/\x.o.cuts.length<=9223372036854775807) (hD:∀ x∈l,x.o.kind=3->D x.o.data) (hl:l.length<=40) (hsec:c.sec<=30):
  Wc 23 #[.agg (aY c).toArray,.slice A l.length cap] w λe w'=>OQ w (dA V c (aR l)) e w'/\∀ x∈(dA V c (aR l)).2,JR l.length x:=by
 have HV:=jz hV;have T1:=jz z9;have L7:=jz hT;have HS:=jz hs;have HIN:=jz B1;have HDL:=jz hd;have L1:=jz hD;obtain⟨w1,a8⟩:=je (w.alloc (.cells (aY c).toArray 45));obtain⟨gc,g0⟩:=je w.heap.size;have q2:Hid (Bw w w1):=jz (by rw[a8];exact aH _ _);have q3:Hid (Blk w1 gc 45 (aY c).toArray):=jz (by rw[a8,g0];exact Blk.new _ _ _);have hrow:w1.rangeAt gc 0 (aY c):=by have:=q3.range;rwa [jt] at this
 have a9:=jz (qF c w1);have e8:Hid ((prog.info? 45).map (·.size)=some (aY c).length):=jz (by rw[jY];kernel_rfl);obtain⟨n,hn⟩:=je l.length;have HN:=jz hn;rw[<- hn] at HS hl ⊢;clear hV z9 hT hs B1 hd hD hn;cases hrc:fV c with
 | false=>
  have HR:Hid (dA V c (aR l)=(some (15,none),[])):=jz (by unfold dA;rw[jP hrc]);rw[hrc] at a9;obtain⟨K,hK⟩:=je (aY c);rw[<- hK] at a8 a9 hrow e8 ⊢;clear hK hrc;go_enter func23,ntmps23
  go_upto_region 1 with fail
  rw[<- a8,<- g0];clear a8 g0;go_wp2_with (first
   | (refine ld 45 (.tmp 2) rfl rfl (by rfl) hrow underlying45 rfl e8 ?_)
   | (go_at_call 17;refine a9.mono ?_;rintro e w2 ⟨rfl,f7⟩))
  go_ret3
  unfold OQ;rw[HR.out];exact⟨⟨rfl,aA q2 f7⟩,λx hx=>by cases hx⟩
 | true=>
  rw[hrc] at a9;have y0:=jz hrc;have q1:1<=c.skew/\c.skew<=1073741824/\2<=c.sec/\c.sec<=4096:=by
   unfold fV at hrc;simpa using hrc
  have f1:=jz q1;obtain⟨K,hK⟩:=je (aY c);rw[<- hK] at a8 a9 hrow e8 ⊢;have HK:=jz hK;have a2:=jz hrow;clear hK hrc q1 hrow;go_enter func23,ntmps23
  go_upto_region 1 with fail
  rw[<- a8,<- g0];clear a8 g0;go_wp2_with (first
   | (refine ld 45 (.tmp 2) rfl rfl (by rfl) a2 underlying45 rfl e8 ?_)
   | (go_at_call 17;refine a9.mono ?_;rintro e w2 ⟨rfl,f7⟩;have d7:=jz (aA q2 f7);have v3:=jz (q3.keep f7);clear f7))
  clear a9 e8 a2;go_loopw [23] (λi wr=>∃ k:Nat,k<=n/\i = .int .i64 k/\Hid (Bw w2 wr)/\Hid (∀ j (h:j<(aR l).length),j<k->aD (aR l)[j]=true)) (λi _=>n-(intOf i).toNat)
  case atStart=>exact⟨0,j0 _,rfl,jz (ji _ _),jz (λj h hj=>by omega)⟩
  case round=>
   obtain⟨k,hk,rfl,HB,HA⟩:=hrel;rcases jo k n with B4|hge
   ·have hltl:k<l.length:=by have:=HN.out;omega
    obtain⟨b,off,eA,hrow⟩:=LM (HS.below (aA d7 HB) |> (by rw[<- HN.out];exact ·)) k hltl;subst eA;have hmem:=List.getElem_mem hltl;obtain⟨x,hx⟩:=je (l[k]);rw[<- hx] at hrow hmem;have hix:=HIN.out x hmem;have hxd:=HDL.out x hmem;have HXO:Hid (∀ h,(aR l)[k]'h=x.o):=jz (λh=>by rw[hx];exact BA l k hltl h);have a2:=jz hrow;have q5:=jz hix;have W2:(0:Int)<=k:=by omega
    have m3:(k:Int)<n:=by omega
    clear hrow hmem hix hx;obtain⟨⟨kk,nn,dd,cc⟩,xA,H5,xB,H6⟩:=x;have g3:∀ w,(zeroValue 71).run prog w = .ok (.agg opZ) w:=λw=>by kernel_rfl
    have r2:=jz g3;clear g3;go_upto_region 6 with (first
     | (refine ld 71 (.tmp 26) rfl rfl (by rfl) a2 underlying71 rfl (by kernel_rfl) ?_)
     | (refine al 71 _ rfl rfl r2 ?_)
     | (refine bZ 71 (.tmp 8) (.tmp 27) rfl rfl (by rfl) (by rfl) (by kernel_rfl) (by rfl) (eF _ _ _ _ _ _ _ _) ?_;intro wN b0 a5 t5))
    obtain⟨g8,A3⟩:=je wr.heap.size;rw[<- A3] at b0 ⊢;have H9:Hid (wN.rangeAt g8 0 [.int .i64 kk,.int .i64 nn,.slice xA dd.length H5,.slice xB cc.length H6]):=jz (Blk.range b0);have HbN:=jz a5;have y2:=jz (sH kk nn dd cc xA xB H5 H6 wN (q5.out.2.below (aA d7 (aA HB a5))) hxd.2 hxd.1);obtain⟨rb,t1⟩:=je (aD ⟨kk,nn,dd,cc⟩);rw[<- t1] at y2;have x5:=jz t1;clear b0 a5 t5 A3 t1 hxd;go_upto_if 30 with (first
     | (refine ld 71 (.tmp 8) rfl rfl (by rfl) H9 underlying71 rfl (by kernel_rfl) ?_)
     | (go_at_call 37;refine y2.mono ?_;rintro e w4 ⟨rfl,c2⟩;have t7:Hid (Bw w2 w4):=jz (aA HB (aA HbN c2));clear c2))
    cases rb with
    | true=>
     have H7:Hid (∀ j (h:j<(aR l).length),j<k+1->aD (aR l)[j]=true):=jz (λj h hj=>by
      rcases jo j k with h1|h1
      ·exact HA j h h1
      ·obtain rfl:j=k:=by omega
       rw[HXO.out h]
       exact x5.symm)
     go_wp2_with fail
     exact⟨⟨k+1,B4,by go_num,t7,H7⟩,by simp[intOf];omega⟩
    | false=>
     have HR:Hid (dA V c (aR l)=(some (16,some (k:Int)),[])):=jz (by
      have t0:k<(aR l).length:=by rw[cG];omega
      unfold dA
      rw[jQ (by rw[y0.out];simp),OR HA.out t0 (by rw[HXO.out t0];exact x5.symm)])
     go_wp2_with (go_at_call 38;refine(sO (k:Int) w4).mono ?_;rintro e w5 ⟨rfl,rfl⟩)
     go_ret3
     unfold OQ;rw[HR.out];exact⟨⟨rfl,aA d7 t7⟩,λx hx=>by cases hx⟩
   ·obtain rfl:k=n:=by omega
    obtain⟨N,r6⟩:=je c.sec.toNat;have r7:c.sec=(N:Int):=by have:=f1.out;omega
    have z4:N<=30:=by omega
    have n3:Hid (∀ j (h:j<(aR l).length),aD (aR l)[j]=true):=jz (λj h=>HA.out j h (by have:=cG l;have:=HN.out;omega));have HR:Hid (dA V c (aR l)=(none,fI V c.skew ⟨eV N,0,none⟩ (aR l))):=jz (by
     unfold dA
     rw[jQ (by rw[y0.out];simp),A9 n3.out,r6])
    have h8:=jz (v3.keep HB);obtain⟨_,t6,_⟩:=qE h8.out;rw[r7] at t6;have HNS:=jz r7;have HNN:=jz r6;have c9:=jz (aA d7 HB);obtain⟨w0,H2⟩:=je wr;rw[<- H2] at h8 t6 c9 ⊢;clear r7 r6 q3 v3 HB q2 d7 HA H2;go_wp2_with fail
    refine(OY N w0 (by omega) (by omega)).mono ?_;rintro e w3 ⟨m,rfl,A1,m1,A2⟩;have y3:Hid (St w0 w3 m (eV N)):=jz ⟨A1,A2,m1⟩;have H8:=jz m1;have v4:=jz (h8.keep m1);obtain⟨g9,s3⟩:=je m.g;have r1:=jz (fun(W:Wd) (h:St w0 W m (eV N))=>Z5 (N:=N) (k:=0) c.key c.skew ⟨f1.out.1,f1.out.2.1⟩ h List.length_replicate z4 (j0 _));rw[<- s3] at r1 ⊢;have L2:=jz s3;have h7:=jz (qE v4);clear A1 m1 A2 s3 t6;go_upto_region 10 with fail
    -- region 10
    refine kZ (n:=12) (λW=>Bw w3 W) ((ji _ _).drew) (h:=λhH=>?_);refine qT 0 (.pointer (some ⟨gc,0,none⟩)) ?_;refine qL 1 (cs:=arr 16 (c8 c.key)) (λW Z j u hj=>j9 Z (h7.out.2.2 j u hj)) (aB _ _) ?_;refine qM 2 (.pointer (some ⟨g9,0,none⟩)) ?_;refine qT 3 (.pointer (some ⟨gc,0,none⟩)) ?_;refine qL 4 (cs:=arr 16 (c8 c.key)) (λW Z j u hj=>j9 Z (h7.out.2.2 j u hj)) (aB _ _) ?_;refine qT 5 (.pointer (some ⟨gc,16,none⟩)) ?_;refine qC 6 (v:=.int .i64 c.skew) (λW Z=>j9 Z h7.out.1) ?_;refine qM 7 (.pointer (some ⟨g9,0,none⟩)) ?_;refine kF 8 (some 45) ((r1 _ (y3.keep (ji _ _).drew)).mono ?_);rintro e w4 ⟨gv,rfl,t2,c2,W1⟩;have c2:=aA (ji _ w3).drew c2;have r3:=c2;refine⟨_,rfl,r3,λhH=>?_⟩;simp only[jq];refine kB 9 (some 46) (vs:=[(0,.agg (arr 16 (c8 c.key)).toArray),(1,.pointer (some ⟨g9,0,none⟩)),(2,.pointer (some ⟨gv,0,none⟩))]) (OS c.key g9 gv) (h:=?_);simp only[jq];obtain⟨gm,s4⟩:=je w4.heap.size;obtain⟨w5,m9⟩:=je (w4.alloc (.cells (fA c.key g9 gv) 106));have s1:Bw w4 w5:=by rw[m9];exact aH _ _
    have r5:Blk w5 gm 106 (fA c.key g9 gv):=by rw[m9,s4];exact Blk.new _ _ _
    have z1:=aA r3 s1;refine kS 10 (some 47) (.pointer (some ⟨gm,0,none⟩)) w5 (hrun:=by rw[m9,s4];unfold execOp;go_simp) (hS:=z1) (h:=?_);simp only[jq];refine qT 11 (.pointer (some ⟨gm,0,none⟩)) ?_;refine kE (h:=?_);have q7:Hid (VE w0 w5 gv g9 0 N c.key c.skew ⟨eV N,0,none⟩ (λb=>b=gm)):=jz ⟨m,_,_,L2.symm,t2.keep s1,λb hb=>by subst hb;exact⟨t2.far_new (by omega),r5.lt⟩⟩;have v9:=jz r5;clear hH c2 r3 W1 t2 s4 m9 s1 r5 z1
    -- end of region 10
    go_upto_region 12 with (first
     | (refine eQ 109 _ rfl rfl rfl WO ?_)
     | (refine al 109 doZ rfl rfl Y6 ?_)
     | (refine bZ 109 (.tmp 11) (.tmp 48) rfl rfl (by rfl) (by rfl) doI (by rfl) WP ?_;intro w6 d1 a1 W7))
    simp only[jq];obtain⟨gd,A5⟩:=je w5.heap.size;rw[<- A5] at d1 ⊢;have q4:Hid (Blk w6 gd 109 doC):=jz d1;have x0:=jz (v9.keep a1);have y5:=jz (q7.keep a1);have v6:Hid (w5.heap.size<=gd):=jz (by omega);have e0:=jz a1;clear d1 a1 W7 A5 v9;obtain⟨i,z,m3,A6,A7,A8,_⟩:=tRow.hi;obtain⟨w7,hmk,c5,g1⟩:=run_makeSlice_owned (P:=prog) (w:=w6) w0.heap.size 24 31 i z 36 underlying24 m3 A6 A7 .i64 .i64 k (by omega) (by rw[A8];omega) (by unfold maxLen;omega) y5.bel.size;have e1:Hid (Bw w6 w7):=jz ((ji _ w6).grown g1 (ja _) (λb h=>by cases h));have L4:=jz c5;have y6:Hid (VE w0 w7 gv g9 0 N c.key c.skew ⟨eV N,0,none⟩ (RLb gm gd (.slice (some ⟨w6.heap.size,0,none⟩) 0 k))):=jz (q7.add (aA e0 e1) (λb hb=>by
     rcases hb with rfl|rfl|hb
     ·exact .inl rfl
     ·exact .inr ⟨v6,jp q4.lt e1.size⟩
     ·have h1:=(c5.lt b hb).2
      have h2:w6.heap.size=b:=Option.some.inj hb
      have h3:=e0.size
      exact .inr ⟨by omega,h1⟩))
    have x1:=jz (x0.keep e1);have v5:=jz (q4.keep e1);have x4:Hid (RLX V c w0 w7 gv g9 gm gd N 0 (aR l) (.slice (some ⟨w6.heap.size,0,none⟩) 0 k)):=jz ⟨y6,c5,x1,v5,λx hx=>by cases hx⟩;clear c5 g1 m3 A6 A7 A8 q7 y5 y6 x0 q4 x1 v5 L4 v6 e0 e1 h8 h7 v4 r1 y3 H8;go_wp2_with fail
    go_loopw [12,54] (λv0 i wr=>∃(j:Nat) (v:Value),v=v0/\j<=k/\i = .int .i64 j/\Hid (RLX V c w0 wr gv g9 gm gd N j (aR l) v)) (λ_ i _=>k-(intOf i).toNat)
    case atStart=>exact⟨0,_,rfl,j0 _,rfl,x4⟩
    case round=>
     clear x4;obtain⟨j,v,rfl,hj,rfl,HX⟩:=hrel;rcases jo j k with B4|hge2
     ·have hltl:j<l.length:=by have:=HN.out;omega
      obtain⟨b,off,eA,hrow⟩:=LM (HS.below (aA c9 HX.ve.bel) |> (by rw[<- HN.out];exact ·)) j hltl;subst eA;have hmem:=List.getElem_mem hltl;have s5:j<(aR l).length:=by rw[cG];exact hltl
      have hr:=n3.out j s5;have k3:=jz (FU V c.skew ⟨eV N,0,none⟩ (aR l) j s5);have f2:=jz (JH V c.skew ⟨eV N,0,none⟩ (aR l) j s5);rw[BA l j hltl] at hr k3 f2;obtain⟨x,hx⟩:=je (l[j]);rw[<- hx] at hrow hmem hr k3 f2;obtain⟨f,hf,hcf,z2⟩:=do_op HV x hr (L1 x hmem);have W3:=oL hr;have hk0:0<=x.o.kind:=by omega
      have hk6:x.o.kind<7:=by omega
      have q5:=jz ((HIN x hmem).below c9);have a2:=jz hrow;have HF:=jz hf;have x2:=jz z2;have L6:=jz (L7 w0 c9);have W2:(0:Int)<=j:=by omega
      have m3:(j:Int)<k:=by omega
      clear hrow hmem hr hx hf z2 W3;have g3:∀ w,(zeroValue 71).run prog w = .ok (.agg opZ) w:=λw=>by kernel_rfl
      have r2:=jz g3;clear g3;go_upto_region 16 with (first
       | (refine ld 71 (.tmp 56) rfl rfl (by rfl) a2 underlying71 rfl (by kernel_rfl) ?_)
       | (refine al 71 _ rfl rfl r2 ?_)
       | (refine bZ 71 (.tmp 14) (.tmp 57) rfl rfl (by rfl) (by rfl) (by kernel_rfl) (by rfl) (all_oneCell_toArray (LL x)) ?_;intro wN b0 a5 t5))
      simp only[jq];obtain⟨gO,A4⟩:=je wr.heap.size;rw[<- A4] at b0 ⊢;have d0:Hid (Blk wN gO 71 (opC x).toArray):=jz b0;have a7:Hid (VE w0 wN gv g9 j N c.key c.skew (oI V c.skew ⟨eV N,0,none⟩ ((aR l).take j)) (λb=>RLb gm gd v b\/b=gO)):=jz (HX.ve.add a5 (λb hb=>hb.imp id (λh=>by have:=d0.lt;omega)));have q6:=jz (HX.m.keep a5);have f0:=jz (HX.d.keep a5);have T3:=jz (aK HX.own a5);have v8:=jz HX.lv;clear b0 a5 t5 A4 HX;obtain⟨s,hs⟩:=je (oI V c.skew ⟨eV N,0,none⟩ ((aR l).take j));rw[<- hs] at a7 k3 f2;have HSS:=jz hs;have a6:Hid ((k9 V c.skew s x.o).1.2.length=32):=jz (by
       unfold k9
       repeat (first|split|rfl|exact T1 _ _))
      have h5:Hid (gU V c.skew s x.o=aN (k9 V c.skew s x.o).2/\oH V c.skew s x.o=⟨x.o.kind,(k9 V c.skew s x.o).1.1,(k9 V c.skew s x.o).2.now,(gA (k9 V c.skew s x.o).2).length,(k9 V c.skew s x.o).1.2⟩):=jz ⟨rfl,rfl⟩;obtain⟨r,hr⟩:=je (k9 V c.skew s x.o);have x3:Hid (∀ W X,k<=40->VE w0 W gv g9 j N c.key c.skew s X->Blk W gm 106 (fA c.key g9 gv)->X gm->Wc f #[.pointer (some ⟨gm,0,none⟩),.agg (opC x).toArray] W (MP w0 W gv g9 (j+1) N c.key c.skew X r)):=jz (λW X hk h1 h2 h3=>by rw[hr];exact x2 w0 W gv g9 gm j N s X L6 q5 (by omega) h1 h2 h3);rw[<- hr] at a6 h5;clear hs hr x2;go_cut [15,16] from 58 to 67 (λv15 v16 wx=>OpP w0 wN gv g9 (j+1) N c.key c.skew (λb=>RLb gm gd v b\/b=gO) r v15 v16 wx)
      case first=>
       have k0:=jz a7.lt
       -- region 16
       refine kZ (n:=13) (OpsX gO gd x f) (F7 (W:=wN.drew) d0 f0 HF) (h:=λhH=>?_);refine qT 0 (.pointer (some ⟨gO,0,none⟩)) ?_;refine qC 1 (v:=.int .i64 x.o.kind) (λW Z=>(Z.o 0 _ rfl)) ?_;refine qT 2 (.pointer (some ⟨gd,x.o.kind.toNat,none⟩)) ?_;refine qC 3 (v:=.func (.func f) #[] #[]) (λW Z=>Z.d) ?_;refine qM 4 (.pointer (some ⟨gm,0,none⟩)) ?_;refine qL 5 (cs:=opC x) (λW Z=>Z.o) (rfl) ?_;refine jW [6,10] (rF 6 (some 65) ((x3 wN.drew (λb=>RLb gm gd v b\/b=gO) hl a7.drew q6 (.inl (.inl rfl))).mono ?_) (rA 10 (some 16) dZ fM (F7 (d0.keep (aA (ji _ wN).drew (aH _ _))) (f0.keep (aA (ji _ wN).drew (aH _ _))) HF) ?_ jN))
       ·rintro e w6 ⟨rfl,m8,d2⟩;have d2:XT (λb=>RLb gm gd v b\/b=gO) wN w6:=(XT.of_below k0 (ji _ wN).drew).trans d2;have f6:=d2.blk (.inr rfl) d0.out;have f3:=d2.blk (.inl (.inr (.inl rfl))) f0.out;refine⟨_,rfl,F7 f6 f3 HF,λhH=>?_⟩;simp only[jq];refine qM 7 (.tuple #[.int .i64 r.1.1,.agg (u8s r.1.2).toArray]) ?_;refine qT 8 (.int .i64 r.1.1) ?_;refine qT 9 (.agg (u8s r.1.2).toArray) ?_;refine jW [10] (rA 10 (some 16) dZ fM (F7 (f6.keep (aH _ _)) (f3.keep (aH _ _)) HF) ?_ jN);simp only[jq];obtain⟨J,O⟩:=je w6.heap.size;obtain⟨w7,n1⟩:=je (w6.alloc (.cells dZ 26));have m2:Bw w6 w7:=by rw[n1];exact aH _ _
        have I:Blk w7 J 26 dZ:=by rw[n1,O];exact Blk.new _ _ _
        have g2:wN.heap.size<=J:=by rw[O];exact d2.size
        have t3:VE w0 w7 gv g9 (j+1) N c.key c.skew r.2 (λb=>(RLb gm gd v b\/b=gO)\/b=J):=m8.add m2 (λb hb=>hb.imp id (λh=>by have:=I.lt;omega));have t4:=d2.trans (XT.of_below m8.lt m2);have b7:=f6.keep m2;have b1:=f3.keep m2;rw[<- n1,<- O];clear n1 O;have hH7:=F7 b7 b1 HF.out;refine qT 11 (.int .i64 r.1.1) ?_;have s0:=F7 ((cD J (u8s r.1.2) 0 w7).blk b7 (C1 I b7 (by decide))) ((cD J (u8s r.1.2) 0 w7).blk b1 (C1 I b1 (by decide))) HF.out;refine kR 12 none (n:=32) (cs:=u8s r.1.2) (cH I (by unfold dZ;exact ja _)) (by rw[aJ];exact a6) (bS _) s0 (h:=?_);simp only[jq];refine kE (h:=?_);have f8:=LR k0 a7.lo g2 I t3 t4 a6.out;go_wp2_with fail
        go_meet
        exact f8
       ·simp only[jq];obtain⟨J,O⟩:=je wN.heap.size;obtain⟨w6,n0⟩:=je (wN.drew.alloc (.cells dZ 26));have a1:Bw wN w6:=by rw[n0];exact aA (ji _ wN).drew (aH _ _)
        have d1:Blk w6 J 26 dZ:=by rw[n0,O];exact Blk.new wN.drew _ _
        have g2:wN.heap.size<=J:=by omega
        have m8:VE w0 w6 gv g9 j N c.key c.skew s (λb=>(RLb gm gd v b\/b=gO)\/b=J):=a7.add a1 (λb hb=>hb.imp id (λh=>by have:=d1.lt;omega));have f6:=d0.keep a1;have f3:=f0.keep a1;have V1:=q6.keep a1;simp only[World.size_drew];rw[<- n0,<- O];clear n0 O;refine jW [6] (rF 6 (some 65) ((x3 w6 _ hl m8 V1 (.inl (.inl (.inl rfl)))).mono ?_) jN);rintro e w7 ⟨rfl,t3,c7⟩;have I:=c7.blk (.inr rfl) d1;have b7:=c7.blk (.inl (.inr rfl)) f6;have b1:=c7.blk (.inl (.inl (.inr (.inl rfl)))) f3;have t4:XT (λb=>RLb gm gd v b\/b=gO) wN w7:=(XT.of_below k0 a1).trans (c7.less (λb hb=>.inl hb));refine⟨_,rfl,F7 b7 b1 HF,λhH=>?_⟩;simp only[jq];refine qM 7 (.tuple #[.int .i64 r.1.1,.agg (u8s r.1.2).toArray]) ?_;refine qT 8 (.int .i64 r.1.1) ?_;refine qT 9 (.agg (u8s r.1.2).toArray) ?_;refine qT 11 (.int .i64 r.1.1) ?_;have s0:=F7 ((cD J (u8s r.1.2) 0 w7).blk b7 (C1 I b7 (by decide))) ((cD J (u8s r.1.2) 0 w7).blk b1 (C1 I b1 (by decide))) HF.out;refine kR 12 none (n:=32) (cs:=u8s r.1.2) (cH I (by unfold dZ;exact ja _)) (by rw[aJ];exact a6) (bS _) s0 (h:=?_);simp only[jq];refine kE (h:=?_);have f8:=LR k0 a7.lo g2 I t3 t4 a6.out;go_wp2_with fail
        go_meet
        exact f8
       -- end of region 16
      case rest=>
       rename Wd=>w8
       obtain⟨J,rfl,rfl,I,H1,d5⟩:=hcut;have h6:=jz I;have r0:=jz H1;have U2:=jz d5;have k2:=jz (d5.blk (.inr rfl) d0);have k1:=jz (d5.blk (.inl (.inl rfl)) q6);have K1:=jz (d5.blk (.inl (.inr (.inl rfl))) f0);have T2:=jz (d5.own T3 (λb hb=>.inl (.inr (.inr hb))));have L3:=jz (fun(W:Wd) (h:VE w0 W gv g9 (j+1) N c.key c.skew r.2 (λb=>(RLb gm gd v b\/b=gO)\/b=J))=>Z6 h);have v7:=jz (fun(W:Wd) (h:VE w0 W gv g9 (j+1) N c.key c.skew (aN r.2) (λb=>(RLb gm gd v b\/b=gO)\/b=J))=>YW (by omega) h);have B3:gA (aN r.2)=gA r.2:=by unfold gA;rw[qA,kG]
       have B2:aN (aN r.2)=aN r.2:=qA r.2;rw[B3,B2] at v7;obtain⟨R,hR⟩:∃ R:RowD,R=⟨x.o.kind,r.1.1,r.2.now,(gA r.2).length,r.1.2⟩:=⟨_,rfl⟩;have t9:=jz (S4 (kd:=x.o.kind) (c:=r.1.1) (nw:=r.2.now) (lv:=((gA r.2).length:Int)) a6);rw[<- hR] at t9;have L5:=jz hR;have y1:Hid ((d8 R).length=36):=jz (by rw[hR];unfold d8;simp[u8s,a6.out]);clear I H1 d5 B3 B2 hR;go_upto_region 17 with fail
       -- region 17
       refine kZ (n:=20) (RwX gO gm J gv x.o.kind r.1.2) (rwX (W:=w8.drew) k2 k1 h6) (h:=λhH=>?_);refine qM 0 (v) ?_;refine qT 1 (.pointer (some ⟨gO,0,none⟩)) ?_;refine qC 2 (v:=.int .i64 x.o.kind) (λW Z=>Z.o) ?_;refine qM 3 (.int .i64 r.1.1) ?_;refine qM 4 (.pointer (some ⟨gm,0,none⟩)) ?_;refine qT 5 (.pointer (some ⟨gm,0,none⟩)) ?_;refine qT 6 (.pointer (some ⟨gm,17,none⟩)) ?_;refine qC 7 (v:=.pointer (some ⟨gv,0,none⟩)) (λW Z=>Z.m) ?_;refine qM 9 (.pointer (some ⟨gm,0,none⟩)) ?_;refine qT 10 (.pointer (some ⟨gm,0,none⟩)) ?_;refine qT 11 (.pointer (some ⟨gm,17,none⟩)) ?_;refine qC 12 (v:=.pointer (some ⟨gv,0,none⟩)) (λW Z=>Z.m) ?_;refine qL 15 (cs:=u8s r.1.2) (λW Z=>Z.d) ((aJ _).trans a6) ?_;refine kF 8 (some 76) ((L3 _ r0.drew).mono ?_);rintro e w9 ⟨rfl,W6,n2⟩;have T0:=jz W6;have U3:Hid (XT (λb=>(RLb gm gd v b\/b=gO)\/b=J) w8 w9):=jz ((XT.of_below r0.lt (ji _ w8).drew).trans n2);refine⟨_,rfl,rwX (n2.blk (.inl (.inr rfl)) k2) (n2.blk (.inl (.inl (.inl rfl))) k1) (n2.blk (.inr rfl) h6),λhH=>?_⟩;simp only[jq];refine kF 13 (some 81) ((v7 _ T0).mono ?_);rintro e c3 ⟨LA,lc,rfl,W5,B5,H3⟩;have c4:=U3.trans H3;have y4:=jz B5;have a3:=jz c4;clear W5;refine⟨_,rfl,rwX (c4.blk (.inl (.inr rfl)) k2) (c4.blk (.inl (.inl (.inl rfl))) k1) (c4.blk (.inr rfl) h6),λhH=>?_⟩;simp only[jq];refine qT 14 (.int .i64 (gA r.2).length) ?_;refine kB 16 (some 84) (vs:=[(0,.int .i64 x.o.kind),(1,.int .i64 r.1.1),(2,.int .i64 r.2.now),(3,.int .i64 (gA r.2).length),(4,.agg (u8s r.1.2).toArray)]) t9 (h:=?_);simp only[jq];obtain⟨k4,f9⟩:=je c3.heap.size;obtain⟨h0,c6⟩:=je (c3.alloc (.cells (d8 R).toArray 31));have a0:Bw c3 h0:=by rw[c6];exact aH _ _
       have m5:(Instr.buildSlice 24 1 #[(0,.agg (d8 R).toArray)]).run prog c3 = .ok (.slice (some ⟨k4,0,none⟩) 1 1) h0:=by rw[c6,f9];exact rP tRow (d8 R) y1 (by omega) c3
       have z5:Sn h0 36 (.slice (some ⟨k4,0,none⟩) 1 1) 1 (d8 R):=by have:=Sn.newAt c3 (d8 R).toArray 31 36 1 k4 (by rw[js,y1.out]) f9.symm;rw[jt,<- c6] at this;exact this
       have n6:=(a3.blk (.inl (.inr rfl)) k2).keep a0;have f5:=(a3.blk (.inl (.inl (.inl rfl))) k1).keep a0;have n4:=(a3.blk (.inr rfl) h6).keep a0;clear f9 c6;refine kS 17 (some 85) (.slice (some ⟨k4,0,none⟩) 1 1) h0 (hrun:=by exact F8 rfl (by kernel_rfl) m5) (hS:=rwX n6 f5 n4) (h:=?_);simp only[jq];have U:=aK (a3.own T2 (λb hb=>.inl (.inl (.inr (.inr hb))))) a0;obtain⟨v2,H4,m6,q0,a4,A0⟩:=iI (ty:=24) tRow U z5 (FW R) (by unfold maxLen;omega) (by omega) (jm a7.lo (jm U2.size (jm a3.size a0.size)));have z0:=rwX (mE a4 U n6 (by decide)) (mE a4 U f5 (by decide)) (mE a4 U n4 (by decide));refine kS 18 (some 86) v2 H4 (hrun:=by exact S5 rfl (by kernel_rfl) (by kernel_rfl) m6) (hS:=z0) (h:=?_);simp only[jq];refine qT 19 (v2) ?_;refine kE (h:=?_)
       -- end of region 17
       have h9:Hid (RLX V c w0 H4 gv g9 gm gd N (j+1) (aR l) v2):=jz (by
        have C2:=y4.keep a0
        have t0:=a7.lo
        refine⟨?_,?_,mE a4 U f5 (by decide),mE a4 U ((a3.blk (.inl (.inl (.inr (.inl rfl)))) K1).keep a0) (by decide),?_⟩
        ·rw[k3.out,h5.out.1]
         refine C2.grown a4 (λb hb=>⟨.inl (.inl (.inr (.inr hb))),(U.lt b hb).1⟩) (λb hb=>?_)
         rcases hb with rfl|rfl|hb
         ·exact .inl (.inl (.inl (.inl rfl)))
         ·exact .inl (.inl (.inl (.inr (.inl rfl))))
         ·rcases A0 with h1|h1
          ·rw[h1] at hb
           exact .inl (.inl (.inl (.inr (.inr hb))))
          ·have h2:=(q0.lt b hb).2
           rw[h1] at hb
           have h3:h0.heap.size=b:=Option.some.inj hb
           exact .inr ⟨by omega,h2⟩
        ·rw[f2.out,List.flatMap_append,h5.out.2,<- L5.out]
         have h4:[R].flatMap d8=d8 R:=by simp
         rw[h4]
         exact q0
        ·intro y hy
         rw[f2.out] at hy
         rcases List.mem_append.1 hy with h1|h1
         ·have h2:=v8.out y h1
          unfold JR at h2 ⊢
          omega
         ·rw[List.mem_singleton.1 h1,h5.out.2]
          have h2:=r0.lv
          unfold JR
          simp only
          omega)
       clear hH;go_wp2_with fail
       exact⟨⟨j+1,_,rfl,by omega,by go_num,h9⟩,by simp[intOf];omega⟩
     ·obtain rfl:j=k:=by omega
      have h9:Hid ((aR l).take j=aR l):=jz (List.take_of_length_le (by rw[cG,HN.out];exact ja _));go_wp2_with fail
      go_ret3
      have Z:=HX.out;have hO:=Z.own;rw[h9.out] at hO;unfold OQ;rw[HR.out];have V2:=aA c9 Z.ve.bel;have m4:=Z.lv;rw[h9.out] at m4;refine⟨⟨_,_,rfl,?_,V2⟩,λx hx=>by first|exact m4 x hx|(rw[<- HN.out];exact m4 x hx)|(rw[HN.out];exact m4 x hx)⟩;show wr.ownsRow w.heap.size _ 36 _ (fI V c.skew ⟨eV N,0,none⟩ (aR l)).length _;rw[nC,cG,<- HN.out];exact bI hO c9.size
theorem uU{V:eK}{D:Bs->Prop}{T:Wd->Prop}{c:ConfD}(A:Option Addr)(cap:Nat)(l:List OpR)(w:Wd)(R:F6 V D T c.key c.skew)(I:∀ s b,(V s b).1.2.length=32)(O:∀ W,Bw w W->T W)(hs:Sn w 4 (.slice A l.length cap) l.length (l.flatMap opC))(J:∀ x∈l,OpI w x)
  (hd:∀ x∈l,x.o.data.length<=9223372036854775807/\x.o.cuts.length<=9223372036854775807) (K:∀ x∈l,x.o.kind=3->D x.o.data) (U:l.length<=40) (j:c.sec<=30):
  Wc 23 #[.agg (aY c).toArray,.slice A l.length cap] w (OQ w (dA V c (aR l))):=
 (F9 A cap l w R I O hs J hd K U j).mono λe w' h=>h.1
def JS(w:Wd)(r:Ans×List RowD)(e:Ending)(w':Wd):Prop:=match r.1 with
 | some x=>e = .returned (.tuple #[.slice none 0 0,bM (some x)])/\Bw w w'
 | none=>∃ v,e = .returned (.tuple #[v,.nilIface])/\w'.ownsRow w.heap.size 31 36 v r.2.length (r.2.flatMap d8)/\Bw w w'
theorem uV{r:Ans×List RowD}(c:ConfD)(sl:Value)(w:Wd)(h:∀ J,Bw w J->Wc 23 #[.agg (aY c).toArray,sl] J (OQ J r)):
  Wc 11 #[.agg (aY c).toArray,sl] w (JS w r):=by
 obtain⟨J,D⟩:=je (w.alloc (.cells (aY c).toArray 45));obtain⟨gc,V⟩:=je w.heap.size;have I:Hid (Bw w J):=jz (by rw[D];exact aH _ _);have a0:Blk J gc 45 (aY c).toArray:=by rw[D,V];exact Blk.new _ _ _
 have j:Hid (J.rangeAt gc 0 (aY c)):=jz (by have:=a0.range;rwa [jt] at this);have O:Hid ((prog.info? 45).map (·.size)=some (aY c).length):=jz (by rw[jY];kernel_rfl);have HR:=jz (h J I);obtain⟨K,hK⟩:=je (aY c);rw[<- hK] at D j O HR ⊢;clear hK h a0;obtain⟨a,a1⟩:=r;obtain⟨PQ,R⟩:=je (JS w (a,a1));have Z:=jz R;rw[<- R];clear R;go_enter func11,ntmps11
 go_upto_region 1 with fail
 rw[<- D,<- V];clear D V;cases a with
 | some x=>
  go_wp2_with (first
   | (refine ld 45 (.tmp 2) rfl rfl (by rfl) j underlying45 rfl O ?_)
   | (go_at_call 23;refine HR.mono ?_;rintro e w2 ⟨rfl,U⟩))
  first|go_ret2|skip
  rw[Z.out];exact⟨rfl,aA I U⟩
 | none=>
  go_wp2_with (first
   | (refine ld 45 (.tmp 2) rfl rfl (by rfl) j underlying45 rfl O ?_)
   | (go_at_call 23;refine HR.mono ?_;rintro e w2 ⟨v,g,rfl,ho,U⟩))
  first|go_ret2|skip
  rw[Z.out];exact⟨v,rfl,bI ho I.size,aA I U⟩
def oM(V:eK)(c:ConfD)(s:Bs):Ans×Bs:=
 if fV c=false then (some (15,none),[])
 else if (bH s).1=0 then ((dA V c (bH s).2).1,fH (dA V c (bH s).2).2)
 else (some (16,some ((bH s).1:Int)),[])
theorem yH{V:eK}(c:ConfD)(s:Bs)(w:Wd)(e1:ML w)(ht:Tab w)(hs:s.length<=10000000)
  (h:∀(U:Wd) (l:List OpR) (A:Option Addr) (cap:Nat),Bw w U->aR l=(bH s).2->Sn U 4 (.slice A l.length cap) l.length (l.flatMap opC)->(∀ x∈l,OpI U x) ->
   Wc 11 #[.agg (aY c).toArray,.slice A l.length cap] U (JS U (dA V c (aR l))))
  (f2:∀ r∈(dA V c (bH s).2).2,RowOk r) (b1:(dA V c (bH s).2).2.length<=100000) (b0:∀ x,(dA V c (bH s).2).1=some x->(dA V c (bH s).2).2=[]):
  Wc 15 #[.agg (aY c).toArray,.string (SBy s)] w (Rt w (.tuple #[.string (SBy (oM V c s).2),bM (oM V c s).1])):=by
 have D:=jz h;have d7:=jz f2;have a9:=jz b0;have HT:=jz ht;obtain⟨U,I⟩:=je (w.alloc (.cells (aY c).toArray 45));obtain⟨gc,a4⟩:=je w.heap.size;have a5:Hid (Bw w U):=jz (by rw[I];exact aH _ _);have d5:Hid (Blk U gc 45 (aY c).toArray):=jz (by rw[I,a4];exact Blk.new _ _ _);have j:Hid (∀ W,Bw U W->W.rangeAt gc 0 (aY c)):=jz (λW hW=>by have:=(d5.keep hW).range;rwa [jt] at this);have a1:Hid ((prog.info? 45).map (·.size)=some (aY c).length):=jz (by rw[jY];kernel_rfl);have O:=jz (qF c U);have HP:=jz (fun(w2:Wd) (hb:Bw U w2)=>OA s w2 (e1.below (aA a5 hb)) hs);clear h f2 b0 ht e1 d5;obtain⟨K,hK⟩:=je (aY c);rw[<- hK] at I j a1 O D ⊢;clear hK;obtain⟨pr,d1⟩:=je (oM V c s);have e0:=jz d1;rw[<- d1];clear d1;obtain⟨S,hS⟩:=je (SBy s);rw[<- hS] at HP ⊢;clear hS;cases hrc:fV c with
 | false=>
  rw[hrc] at O;have HR:Hid (pr=(some (15,none),[])):=jz (by rw[e0.out];unfold oM;rw[jP hrc]);clear hrc D;go_enter func15,ntmps15
  go_upto_region 1 with fail
  rw[<- I,<- a4];clear I a4;go_wp2_with (first
   | (refine ld 45 (.tmp 2) rfl rfl (by rfl) (j _ (ji _ _)) underlying45 rfl a1 ?_)
   | (go_at_call 17;refine O.mono ?_;rintro e w2 ⟨rfl,a6⟩))
  first|go_ret2|skip
  rw[HR.out];exact⟨rfl,aA a5 a6⟩
 | true=>
  rw[hrc] at O;have HR:Hid (pr=if (bH s).1=0 then ((dA V c (bH s).2).1,fH (dA V c (bH s).2).2) else (some (16,some ((bH s).1:Int)),[])):=jz (by rw[e0.out];unfold oM;rw[jQ (by rw[hrc];simp)]);clear hrc;go_enter func15,ntmps15
  go_upto_region 1 with fail
  rw[<- I,<- a4];clear I a4;go_upto_region 3 with (first
   | (refine ld 45 (.tmp 2) rfl rfl (by rfl) (j _ (ji _ _)) underlying45 rfl a1 ?_)
   | (go_at_call 17;refine O.mono ?_;rintro e w2 ⟨rfl,a6⟩))
  have Z:=jz a6;clear O a6;go_upto_region 4 with (go_at_call 33;refine(HP _ Z).mono ?_;rintro e w3 ⟨a7,v,ev,rfl,f3⟩)
  rcases f3 with ⟨h0,rfl,R,hR,c2,b7⟩|⟨h1,rfl,rfl⟩
  ·obtain⟨A3,c3,rfl,f6,_⟩:=mZ c2;have a0:=jz (aA Z a7);have c6:=jz (aA a5 a0);have a3:=jz (D w3 R A3 c3 c6 hR f6 b7);rw[hR] at a3;have a2:Hid (pr=((dA V c (bH s).2).1,fH (dA V c (bH s).2).2)):=jz (by rw[HR.out,jP h0]);obtain⟨rr,f5⟩:=je (dA V c (bH s).2);rw[<- f5] at a3 a2 d7 a9 b1;obtain⟨n3,e8⟩:=je R.length;rw[<- e8] at a3 ⊢;clear c2 b7 f6 a7 hR h0 D HP HR f5 e8;obtain⟨a,J⟩:=rr;go_upto_region 6 with fail
   cases a with
   | some x=>
    obtain rfl:J=[]:=a9.out x rfl;go_wp2_with (first
     | (refine ld 45 (.tmp 2) rfl rfl (by rfl) (j _ a0) underlying45 rfl a1 ?_)
     | (go_at_call 11;refine a3.mono ?_;rintro e w4 ⟨rfl,a8⟩;obtain⟨t,u,hv⟩:=bW x;rw[hv];have g0:=jz hv;have g2:=dC t u))
    first|go_ret2|skip
    rw[a2.out,<- g0.out];exact⟨rfl,aA c6 a8⟩
   | none=>
    go_upto_region 9 with (first
     | (refine ld 45 (.tmp 2) rfl rfl (by rfl) (j _ a0) underlying45 rfl a1 ?_)
     | (go_at_call 11;refine a3.mono ?_;rintro e w4 ⟨v4,rfl,f1,a8⟩))
    obtain⟨A4,c4,rfl,c5,_⟩:=mZ f1;have d2:=jz (aA c6 a8);have c7:=jz (AX J A4 c4 w4 (HT.below d2) c5 d7 b1);obtain⟨SS,c9⟩:=je (SBy (fH J));have f9:=jz c9;rw[<- c9] at c7;obtain⟨n4,f0⟩:=je J.length;rw[<- f0] at c7 ⊢;clear c5 f1 a8 c9 f0;go_wp2_with (go_at_call 7;refine c7.mono ?_;rintro e w5 ⟨rfl,g1⟩)
    first|go_ret2|skip
    rw[a2.out,f9.out];exact⟨rfl,aA d2 g1⟩
  ·have a2:Hid (pr=(some (16,some ((bH s).1:Int)),[])):=jz (by rw[HR.out,jQ (by omega)]);have f7:=jz (aA a5 (aA Z a7));obtain⟨t,u,d0⟩:∃ t u,JD (bH s).1 = .iface t u:=⟨_,_,rfl⟩;have f8:Hid (bM (some (16,some ((bH s).1:Int))) = .iface t u):=jz d0;rw[d0];have g2:=dC t u;clear d0 D HP HR h1 a7;go_wp2_with fail
   first|go_ret2|skip
   rw[a2.out];refine⟨?_,f7⟩;show _=Ending.returned (.tuple #[.string (SBy []),bM (some (16,some ((bH s).1:Int)))]);rw[f8.out];rfl
def c58:ConfD:=⟨λ_=>0,5,8⟩
def c51:ConfD:=⟨λ_=>0,5,1⟩
def GA:Bs:=[98,111,111,116,10,116,105,99,107,32,57,10,118,101,114,105,102,121,10]
def WR:Bs:=[98,111,111,116,32,78,79,78,69,32,48,32,48,10,116,105,99,107,32,78,79,78,69,32,57,32,48,10,118,101,114,105,102,121,32,77,65,76,70,79,82,77,69,68,32,57,32,48,10]
def JT:List OpD:=[⟨2,0,[],[]⟩,⟨1,9,[],[]⟩,⟨3,0,[],[]⟩]
def GB:List RowD:=[⟨2,0,0,0,z32L⟩,⟨1,0,9,0,z32L⟩,⟨3,1,9,0,z32L⟩]
def GC:OpD:=⟨1,4,[],[]⟩
def rM:RowD:=⟨1,0,4,0,z32L⟩
theorem yI:bH GA=(0,JT):=by kernel_rfl
theorem C3:bH []=(0,[]):=by kernel_rfl
theorem OT:fH GB=WR:=by kernel_rfl
def WS(V:eK):Prop:=∀ s,V s []=((1,z32L),aN s)
theorem S6{V:eK}(hV:WS V):fI V 5 ⟨eV 8,0,none⟩ JT=GB:=by
 obtain⟨r',_,ho⟩:=SQ 8 (by omega);have hs:dY (eV 8)=eV 8:=rfl;have hb:iU 5 ⟨eV 8,0,none⟩=(none,⟨qD ((List.replicate 8 zsec).set 0 (rec 1 toll)) [] 3 r',0,some ⟨⟨0,0,1,0,false⟩,bT (gD []) 0,iR 0 5⟩⟩):=by
  unfold iU;rw[hs,ho]
 obtain⟨x,j⟩:=je (VS.mk (qD ((List.replicate 8 zsec).set 0 (rec 1 toll)) [] 3 r') 0 (some ⟨⟨0,0,1,0,false⟩,bT (gD []) 0,iR 0 5⟩));have J:aN x=x:=by rw[j];rfl
 have Z:gA x=[]:=by rw[j];rfl
 have ht:tH x 9=⟨x.d,9,x.co⟩:=by
  unfold tH;rw[J,j];rfl
 obtain⟨D,I⟩:=je (VS.mk x.d 9 x.co);have K:aN D=D:=by rw[I,j];rfl
 have R:gA D=[]:=by rw[I,j];rfl
 have U:x.now=0:=by rw[j]
 have O:D.now=9:=by rw[I]
 rw[<- j] at hb;rw[<- I] at ht;have a1:k9 V 5 ⟨eV 8,0,none⟩ ⟨2,0,[],[]⟩=((0,z32L),x):=by
  unfold k9;rw[hb];rfl
 have a2:k9 V 5 x ⟨1,9,[],[]⟩=((0,z32L),D):=by
  unfold k9;rw[ht];rfl
 have a3:k9 V 5 D ⟨3,0,[],[]⟩=((1,z32L),D):=by
  have e:=hV D;rw[K] at e;exact e
 have r1:oH V 5 ⟨eV 8,0,none⟩ ⟨2,0,[],[]⟩=⟨2,0,0,0,z32L⟩:=by
  unfold oH;rw[a1,Z,U];rfl
 have n1:gU V 5 ⟨eV 8,0,none⟩ ⟨2,0,[],[]⟩=x:=by
  unfold gU;rw[a1];exact J
 have r2:oH V 5 x ⟨1,9,[],[]⟩=⟨1,0,9,0,z32L⟩:=by
  unfold oH;rw[a2,R,O];rfl
 have n2:gU V 5 x ⟨1,9,[],[]⟩=D:=by
  unfold gU;rw[a2];exact K
 have r3:oH V 5 D ⟨3,0,[],[]⟩=⟨3,1,9,0,z32L⟩:=by
  unfold oH;rw[a3,R,O];rfl
 show [oH V 5 ⟨eV 8,0,none⟩ ⟨2,0,[],[]⟩,oH V 5 (gU V 5 ⟨eV 8,0,none⟩ ⟨2,0,[],[]⟩) ⟨1,9,[],[]⟩,oH V 5 (gU V 5 (gU V 5 ⟨eV 8,0,none⟩ ⟨2,0,[],[]⟩) ⟨1,9,[],[]⟩) ⟨3,0,[],[]⟩]=_;rw[r1,n1,r2,n2,r3];rfl
theorem uW{V:eK}(j:WS V):dA V c58 JT=(none,GB):=by
 unfold dA;rw[jQ (by decide),show oJ JT=none by decide];exact congrArg (Prod.mk none) (S6 j)
theorem WT{V:eK}:dA V c58 [GC]=(none,[rM]):=by
 unfold dA;rw[jQ (by decide),show oJ [GC]=none by decide];rfl
theorem S7{V:eK}(j:WS V):oM V c58 GA=(none,WR):=by
 unfold oM;rw[jQ (by decide),yI];simp only[if_true];rw[uW j];exact congrArg (Prod.mk none) OT
theorem S8{V:eK}:oM V c51 []=(some (15,none),[]):=by
 unfold oM;rw[jP (by decide)]
theorem GD:∀ r∈GB,RowOk r:=by
 intro r j;simp only[GB,jl,j8,or_false] at j;rcases j with rfl|rfl|rfl <;> exact⟨⟨by decide,by decide⟩,⟨by decide,by decide⟩,⟨by decide,by decide⟩,⟨by decide,by decide⟩,by decide,by decide⟩
theorem JU(o:Ans)(w:Wd):Wc 16 #[bM o] w (Rt w (.int .i64 (cR o))):=by
 have j:=jz (nU o w);obtain⟨v,x⟩:=je (bM o);obtain⟨z,D⟩:=je (cR o);rw[<- x,<- D] at j ⊢;clear x D;go_enter func16,ntmps16
 go_wp2_with (go_at_call 34;refine j.mono ?_;rintro e I ⟨rfl,hb⟩)
 first|go_ret|skip
 exact⟨rfl,hb⟩
def K58:Wa:=#[.int .u8 0,.int .u8 0,.int .u8 0,.int .u8 0,.int .u8 0,.int .u8 0,.int .u8 0,.int .u8 0,.int .u8 0,.int .u8 0,.int .u8 0,.int .u8 0,.int .u8 0,.int .u8 0,.int .u8 0,.int .u8 0,.int .i64 5,.int .i64 8]
theorem S9:(aY c58).toArray=K58:=by unfold K58;kernel_rfl
theorem WU:prog.built 45 [(1,.int .i64 5),(2,.int .i64 8)]=some K58:=by unfold K58;kernel_rfl
theorem WV:prog.built 45 [(1,.int .i64 5),(2,.int .i64 1)]=some (aY c51).toArray:=by kernel_rfl
def cZ:Wa:=#[.int .u8 0,.int .u8 0,.int .u8 0,.int .u8 0,.int .u8 0,.int .u8 0,.int .u8 0,.int .u8 0,.int .u8 0,.int .u8 0,.int .u8 0,.int .u8 0,.int .u8 0,.int .u8 0,.int .u8 0,.int .u8 0,.int .i64 0,.int .i64 0]
theorem TB:∀ w,(zeroValue 45).run prog w = .ok (.agg cZ) w:=λw=>by unfold cZ;kernel_rfl
theorem confI:(prog.info? 45).map (·.size)=some K58.size:=by unfold K58;kernel_rfl
theorem confL:(prog.info? 45).map (·.size)=some K58.toList.length:=by unfold K58;kernel_rfl
theorem WW:K58.all (·.oneCell')=true:=by unfold K58;rw[List.all_toArray];rfl
theorem Y7:cZ.size=K58.size:=rfl
theorem OU:prog.built 31 [(0,.int .i64 1),(2,.int .i64 4)]=some (d8 rM).toArray:=by unfold rM z32L;kernel_rfl
theorem Y8(w:Wd):(binOp .eql 31 (.agg (d8 rM).toArray) (.agg (d8 rM).toArray)).run prog w = .ok (.bool true) w:=by unfold rM z32L;kernel_rfl
theorem WX(p q:Operand)(w:Wd):(eqGuard .eql 31 p q (.agg (d8 rM).toArray) (.agg (d8 rM).toArray)).run prog w = .ok () w:=by unfold rM z32L;kernel_rfl
theorem row4I:(prog.info? 31).map (·.size)=some (d8 rM).length:=by kernel_rfl
theorem TC(w:Wd)
  (J:∀ x,Bw w x->Wc 15 #[.agg (aY c58).toArray,.string (SBy GA)] x (Rt x (.tuple #[.string (SBy WR),.nilIface])))
  (c2:∀ x,Bw w x->Wc 15 #[.agg (aY c51).toArray,.string (SBy [])] x (Rt x (.tuple #[.string (SBy []),bM (some (15,none))])))
  (hr:∀ x A cap,Bw w x->Sn x 4 (.slice A 1 cap) 1 (opC ⟨GC,none,0,none,0⟩)->Wc 11 #[.agg (aY c58).toArray,.slice A 1 cap] x (JS x (none,[rM]))):
  Wc 6 #[] w (Rt w (.bool true)):=by
 have e1:SBy GA=⟨#[98,111,111,116,10,116,105,99,107,32,57,10,118,101,114,105,102,121,10]⟩:=by kernel_rfl
 have e2:SBy WR=⟨#[98,111,111,116,32,78,79,78,69,32,48,32,48,10,116,105,99,107,32,78,79,78,69,32,57,32,48,10,118,101,114,105,102,121,32,77,65,76,70,79,82,77,69,68,32,57,32,48,10]⟩:=by kernel_rfl
 have e3:SBy []=⟨#[]⟩:=by kernel_rfl
 rw[e1,e2] at J;rw[e3] at c2;rw[S9] at J hr;have a5:=jz J;have a6:=jz c2;have HR:=jz hr;clear J c2 hr e1 e2 e3;have a1:=WU;have a0:=WV;have HI:=confI;have HL:=confL;have HO:=WW;have HZ:=Y7;obtain⟨K,hK⟩:=je K58;obtain⟨K1,d7⟩:=je ((aY c51).toArray);have a7:=jz (λx=>qF c58 x);rw[S9,show fV c58=true by decide] at a7;rw[<- hK] at a5 HR a1 HI HL HO HZ a7;rw[<- d7] at a6 a0;clear hK d7;have c9:=jz a1;have c7:=jz a0;have f7:=jz HI;have a4:=jz HL;have f8:=jz HO;have f9:=jz HZ;clear a1 a0 HI HL HO HZ;go_enter func6,ntmps6
 go_upto_region 2 with (first
  | (refine eQ 45 _ rfl rfl rfl c9 ?_)
  | (refine al 45 cZ rfl rfl TB ?_)
  | (refine bZ 45 (.tmp 1) (.tmp 8) rfl rfl (by rfl) (by rfl) f7 f9 f8 ?_;intro x a8 e0 g3))
 obtain⟨gc,f0⟩:=je w.heap.size;rw[<- f0] at a8 ⊢;have c3:=jz e0;have a3:Hid (∀ W,Bw x W->W.rangeAt gc 0 K.toList):=jz (λW hW=>(Blk.keep (show Blk x gc 45 K from a8) hW).range);clear a8 e0 g3 f0;go_upto_region 3 with (first
  | (refine ld 45 (.tmp 1) rfl rfl (by rfl) (a3 _ (ji _ _)) underlying45 rfl a4 ?_)
  | (go_at_call 15;refine(a5 _ c3).mono ?_;rintro e w2 ⟨rfl,a9⟩))
 have a2:=jz (aA c3 a9);have O:=jz a9;clear a9 a5;go_upto_region 4 with (first
  | (refine eQ 45 _ rfl rfl rfl c7 ?_)
  | (go_at_call 15;refine(a6 _ a2).mono ?_;rintro e w3 ⟨rfl,b0⟩))
 have c6:=jz (aA a2 b0);have U:=jz (aA O b0);clear b0 a6 a2 O;go_wp2_with (first
  | (refine ld 45 (.tmp 1) rfl rfl (by rfl) (a3 _ U) underlying45 rfl a4 ?_))
 have I:Bw w3 (w3.alloc (.cells #[.int .i64 1,.int .i64 4,.slice none 0 0,.slice none 0 0] 71)):=aH _ _;refine((HR _ _ _ (aA c6 I) (Sn.newAt w3 #[.int .i64 1,.int .i64 4,.slice none 0 0,.slice none 0 0] 71 4 1 _ rfl rfl))).mono ?_;rintro e w5 ⟨v5,rfl,f1,b1⟩;obtain⟨A5,c5,f5,f3,_⟩:=mZ f1;rw[f5];obtain⟨b5,Z,d5,f2⟩:=f3.range 0 (by decide);rw[d5];have V:w5.rangeAt b5 Z (d8 rM):=by
  have h:=f2;rw[Nat.zero_mul,Nat.add_zero] at h;exact h
 have d1:=jz (fun(W:Wd) (hW:Bw w5 W)=>(show W.rangeAt b5 Z (d8 rM) from λj u hj=>j9 hW (V j u hj)));have f6:=jz (aA c6 (aA I b1));have c4:=jz (aA U (aA I b1));clear I f1 b1 f5 f3 f2 V d5 HR;have D:=jz (λx=>JU (some (15,none)) x);obtain⟨ev,e8⟩:=je (bM (some (15,none)));rw[<- e8] at D ⊢;rw[show cR (some (15,none))=15 from rfl] at D;have g2:=Y8;have g1:=WX;have d2:=jz row4I;have d0:=jz OU;obtain⟨R,hR⟩:=je (d8 rM);rw[<- hR] at d1 d2 d0 g2 g1;clear e8 hR;go_wp2_with (first
  | (refine ld 45 (.tmp 1) rfl rfl (by rfl) (a3 _ (aA c4 b7)) underlying45 rfl a4 ?_)
  | (refine eQ 31 _ rfl rfl rfl d0 ?_)
  | (refine ld 31 (.tmp 42) rfl rfl (by rfl) (d1 _ b7) underlying31 rfl d2 ?_)
  | (go_at_call 16;refine(D _).mono ?_;rintro e w6 ⟨rfl,b7⟩)
  | (go_at_call 17;refine(a7 _).mono ?_;rintro e w7 ⟨rfl,g0⟩))
 first|go_ret|skip
 exact⟨rfl,aA f6 (aA b7 g0)⟩
theorem rN{w:Wd}{g:Nat}{c:ConfD}(h:Blk w g 37 (aY c).toArray):w.cell? ⟨g,16,none⟩=some (.int .i64 c.skew)/\w.cell? ⟨g,17,none⟩=some (.int .i64 c.sec)/\w.rangeAt g 0 (arr 16 (c8 c.key)):=by
 have h1:∀ j,(aY c).toArray[16+j]? = [Value.int .i64 c.skew,.int .i64 c.sec][j]?:=λj=>by
  unfold aY;rw[jf,jx (by rw[aB];omega),aB,Nat.add_sub_cancel_left]
 refine⟨(h.cell 16).trans (h1 0),(h.cell 17).trans (h1 1),λj u x=>?_⟩;have I:j<16:=by
  have:=(List.getElem?_eq_some_iff.1 x).1
  rwa [aB] at this
 have D:=h.cell j;rw[Nat.zero_add,D];unfold aY;rw[jf,jy (by rw[aB];exact I),x]
theorem GE(c:ConfD)(w:Wd):Wc 13 #[.agg (aY c).toArray] w (Rt w (.bool (fV c))):=by
 obtain⟨w1,j⟩:=je (w.alloc (.cells (aY c).toArray 37));have I:Hid (Bw w w1):=jz (by rw[j];exact aH _ _);obtain⟨U,V,_⟩:=rN (w:=w1) (g:=w.heap.size) (c:=c) (by rw[j];exact Blk.new _ _ _);obtain⟨b,hb⟩:=je (fV c);rw[<- hb];obtain⟨K,hK⟩:=je (aY c);rw[<- hK] at j ⊢;obtain⟨key,sk,D⟩:=c;simp only at U V;have J:Hid (b=(decide (1<=sk) && (decide (sk<=1073741824) && (decide (2<=D) && decide (D<=4096))))):=jz hb;clear hb hK;rcases Int.lt_or_le sk 1 with O|O
 ·have x:Hid (false=b):=jz (by rw[J.out,decide_eq_false (by omega)];rfl);have u1:¬1<=sk:=by omega
  go_enter func13,ntmps13
  go_upto_region 1 with fail
  rw[<- j];clear j;go_wp2_with fail
  go_ret;exact⟨by rw[<- x.out];rfl,I⟩
 rcases Int.lt_or_le 1073741824 sk with R|R
 ·have x:Hid (false=b):=jz (by rw[J.out,decide_eq_true O,decide_eq_false (by omega)];rfl);have u1:¬sk<=1073741824:=by omega
  go_enter func13,ntmps13
  go_upto_region 1 with fail
  rw[<- j];clear j;go_wp2_with fail
  go_ret;exact⟨by rw[<- x.out];rfl,I⟩
 rcases Int.lt_or_le D 2 with Z|Z
 ·have x:Hid (false=b):=jz (by rw[J.out,decide_eq_true O,decide_eq_true R,decide_eq_false (by omega)];rfl);have u1:¬2<=D:=by omega
  go_enter func13,ntmps13
  go_upto_region 1 with fail
  rw[<- j];clear j;go_wp2_with fail
  go_ret;exact⟨by rw[<- x.out];rfl,I⟩
 rcases Int.lt_or_le 4096 D with t4|t4
 ·have x:Hid (false=b):=jz (by rw[J.out,decide_eq_true O,decide_eq_true R,decide_eq_true Z,decide_eq_false (by omega)];rfl);have u1:¬D<=4096:=by omega
  go_enter func13,ntmps13
  go_upto_region 1 with fail
  rw[<- j];clear j;go_wp2_with fail
  go_ret;exact⟨by rw[<- x.out];rfl,I⟩
 ·have x:Hid (true=b):=jz (by rw[J.out,decide_eq_true O,decide_eq_true R,decide_eq_true Z,decide_eq_true t4];rfl);go_enter func13,ntmps13
  go_upto_region 1 with fail
  rw[<- j];clear j;go_wp2_with fail
  go_ret;exact⟨by rw[<- x.out];rfl,I⟩
end
end Go.Proofs.YtiaigidbcljblaaGreatDoor
