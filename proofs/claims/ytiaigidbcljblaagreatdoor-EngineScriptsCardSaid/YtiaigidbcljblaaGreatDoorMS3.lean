import Derived.Test.YtiaigidbcljblaaGreatDoorMS1
import Derived.Test.YtiaigidbcljblaaGreatDoorRows
import Derived.RangeFuncNested
import Derived.RangeFuncBound
import Derived.RangeFuncCalls
import Derived.RangeFuncLeaves
import Derived.Shelf.Abstract
import Derived.Shelf.RegionOpen
import Derived.WalkKit
import Derived.OwnWalkIn
import Derived.TacticsInMore
import Derived.LoopNIn
import Derived.LoopIn
set_option linter.unusedSimpArgs false
set_option maxRecDepth 100000
set_option maxHeartbeats 40000000
namespace Go.Proofs.YtiaigidbcljblaaGreatDoor
open Go.Proofs.Tryz
open Go.RowKit
abbrev bL:=Nat->Prop
structure Lies(T:bL)(W W':Wd):Prop where
 os:W'.os=W.os
 tape:W'.tape=W.tape
 output:W'.output=W.output
 size:W.heap.size<=W'.heap.size
 block:∀ k,k<W.heap.size->T k->W'.heap[k]? = W.heap[k]?
structure Turn(T:bL)(W:Wd)(T':bL)(W':Wd):Prop where
 os:W'.os=W.os
 tape:W'.tape=W.tape
 output:W'.output=W.output
 size:W.heap.size<=W'.heap.size
 block:∀ k,k<W.heap.size->¬T k->W'.heap[k]? = W.heap[k]?
 sub:∀ k,T' k->T k\/W.heap.size<=k
theorem Lies.refl(T:bL)(W:Wd):Lies T W W:=⟨rfl,rfl,rfl,ja _,λ_ _ _=>rfl⟩
theorem Lies.trans{T:bL}{A B C:Wd}(h:Lies T A B)(k:Lies T B C):Lies T A C:=
 ⟨k.os.trans h.os,k.tape.trans h.tape,k.output.trans h.output,jm h.size k.size,λi hi ht=>(k.block i (jp hi h.size) ht).trans (h.block i hi ht)⟩
theorem Lies.mono{T j:bL}{A B:Wd}(h:Lies T A B)(hs:∀ k,j k->T k):Lies j A B:=⟨h.os,h.tape,h.output,h.size,λk x ht=>h.block k x (hs k ht)⟩
theorem Lies.alloc(T:bL)(W:Wd)(o:Obj):Lies T W (W.alloc o):=⟨rfl,rfl,rfl,by simp,λk j _=>Below.heap_alloc W o k j⟩
theorem Lies.putObj(T:bL)(W:Wd){l:Nat}(j:¬T l)(o:Obj):Lies T W (W.putObj l o):=⟨rfl,rfl,rfl,by simp,λk _ ht=>World.putObj_heap_other (λe=>j (e ▸ ht))⟩
theorem Lies.of_below{T:bL}{W W':Wd}(h:Bw W W'):Lies T W W':=⟨h.os,h.tape,h.output,h.size,λk j _=>h.block k j⟩
theorem Lies.setCell(T:bL)(W:Wd)(b i:Nat)(hb:¬T b)(v:Value):Lies T W (W.setCell ⟨b,i,none⟩ v):=⟨rfl,rfl,rfl,by simp,λk _ ht=>Below.heap_setCell W ⟨b,i,none⟩ v k (λe=>hb (by cases e;exact ht))⟩
theorem Turn.refl(T:bL)(W:Wd):Turn T W T W:=⟨rfl,rfl,rfl,ja _,λ_ _ _=>rfl,λ_ h=>.inl h⟩
theorem Turn.trans{T x j:bL}{A B C:Wd}(h:Turn T A x B)(k:Turn x B j C):Turn T A j C:=
  ⟨k.os.trans h.os, k.tape.trans h.tape, k.output.trans h.output, Nat.le_trans h.size k.size,
   λi hi ht => (k.block i (Nat.lt_of_lt_of_le hi h.size) (λI => (h.sub i I).elim ht (λD => by omega))).trans (h.block i hi ht),
   λi hi=>(k.sub i hi).elim (h.sub i) (λD=>.inr (jm h.size D))⟩
theorem Turn.of_below{T:bL}{W W':Wd}(h:Bw W W'):Turn T W T W':=⟨h.os,h.tape,h.output,h.size,λk j _=>h.block k j,λ_ h=>.inl h⟩
theorem Turn.grow{T x:bL}{W W':Wd}(h:Turn T W x W'){j:bL}(hs:∀ k,j k->x k\/W.heap.size<=k):Turn T W j W':=
 ⟨h.os,h.tape,h.output,h.size,h.block,λk D=>(hs k D).elim (h.sub k) .inr⟩
def O4{β:Type}(N:Nat)(Z:bL)(J:β->bL->Wd->Prop):Prop:=∀ s T A B,J s T A->Lies (λk=>T k\/(k<N/\¬Z k)) A B->J s T B
def O5(inf:Prop){α:Type}(F:Fence)(n:Nat)(P:Program)(g:Nat)(lb:Wa)(encs:α->Wa)(X Z:bL)(all:List α)(w:Wd):Prop:=
 ∀(l:Nat) (J Jx:List α->bL->Wd->Prop) (T0:bL) (W:Wd),Bw w W->w.heap.size<=l->l<W.heap.size->O4 W.heap.size Z J->O4 W.heap.size Z Jx->(∀ s T A,J s T A->∀ k,T k->k<A.heap.size) ->
  (∀ pre x T W1,pre++[x] <+: all->J pre T W1->YieldAt F (n-1) P l (encs x) W1 λe W'=>∃ T',Turn (λk=>T k\/k=l) W1 T' W' /\
   ((e = .returned (.bool true)/\J (pre++[x]) T' W')\/(e = .returned (.bool false)/\Jx (pre++[x]) T' W'))) ->
  (∀ k,T0 k->¬X k)->J [] T0 W->(inf->∀ T W,¬J all T W) ->
  CallsIn F n P g (#[.func (.yield l) #[] #[]]++lb) W λe W'=>(∃ v,e = .returned v)/\∃ T',(J all T' W'\/(∃ pre,pre <+: all/\Jx pre T' W'))
abbrev SeqZ {α:Type} (F:Fence) (n:Nat) (P:Program) (g:Nat) (lb:Wa) (encs:α->Wa) (X Z:bL) (all:List α) (w:Wd):Prop:=O5 False F n P g lb encs X Z all w
def O6{α:Type}(I:List α->bL->Wd->Prop)(Ix:Code->List α->bL->Wd->Prop)(xs:List α)(T:bL)(W:Wd):Exit->Act->Wd->Prop
 | .normal,_,W'=>∃ T',Turn T W T' W'/\I xs T' W'
 | .ret,_,W'=>∃ T',Turn T W T' W'/\Ix .ret xs T' W'
 | .exit id,_,W'=>∃ T',Turn T W T' W'/\Ix (.exit id) xs T' W'
 | .goto t,_,W'=>∃ T',Turn T W T' W'/\Ix (.goto t) xs T' W'
 | .panic _,_,_=>False
 | .outgrown,_,_=>False
variable {F : Fence} {n : Nat} {P : Program}
theorem gW{α:Type}{g:Operand}{ps:Array Tmp}{U body:Code}{Q:Exit->Act->Wd->Prop}{a:Act}{w:Wd}
  (m4:F.round=none) (h1:F.depth.isSome=true->1<=n) {gf:Nat} {lb:Wa} (hg:a.eval g = .func (.func gf) #[] lb) (g3:F.fn gf) (eg:∀ args w,(callFunc gf args).run P w = .ok (.enter gf args) w)
  {encs:α->Wa} {X Z:bL} {all:List α} {w0:Wd} {g2:Prop} (g1:O5 g2 F (n-1) P gf lb encs X Z all w0)
  (d0:Bw w0 w) (m3:∀ x,(encs x).size=ps.size) (hZ:∀ k,Z k->k<w.heap.size)
  (I:List α->bL->Wd->Prop) (Ix:Code->List α->bL->Wd->Prop) (M:List α->α->Act->bL->Wd->Prop) (T0:bL)
  (hI:O4 w.heap.size Z I) (c3:∀ c,O4 w.heap.size Z (Ix c)) (hM:∀ J x a',O4 w.heap.size Z (fun(_:Unit) T W=>M J x a' T W)) (d7:∀ s T A,I s T A->∀ k,T k->k<A.heap.size) (h7:∀ k,T0 k->¬X k) (h0:I [] T0 w)
  (c4:∀(l:Nat) (J:List α) (x:α) (T:bL) (W:Wd),w.heap.size<=l->J++[x] <+: all->w.heap.size<=W.heap.size->I J T W ->
   U.wpIn (F.inRound l) (n-1-1) P (Exit.then (λa' W'=>∃ T',Turn T W T' W'/\M J x a' T' W') (λ_ _ _=>False)) { tmps:=(ps.zip (encs x)).foldl (λt (p,v)=>t.setIfInBounds p v) a.tmps,defers:=[] } W)
  (d1:∀(l:Nat) (J:List α) (x:α) (a':Act) (T:bL) (W:Wd),w.heap.size<=l->J++[x] <+: all->w.heap.size<=W.heap.size->M J x a' T W->body.wpIn (F.inRound l) (n-1-1) P (O6 I Ix (J++[x]) T W) a' W)
  (d2:∀(D:Nat) (T:bL) (W:Wd),w.heap.size<=D->I all T W->¬T D->W.heap[D]? = some (.deferred (some []))->Q .normal { a with defers:={ target:=.collected D,args:=#[] } :: a.defers } W)
  (d5:∀(D:Nat) (c:Code) (J:List α) (T:bL) (W:Wd),w.heap.size<=D->J <+: all->Ix c J T W->¬T D->W.heap[D]? = some (.deferred (some []))->c.wpIn F n P Q { a with defers:={ target:=.collected D,args:=#[] } :: a.defers } W) 
  (f2:g2->∀ T W,¬I all T W:=by exact λh=>h.elim):
  (Code.rangeFunc g ps U body).wpIn F n P Q a w:=by
 refine wpIn_rangeFunc ?_;intro fn h9;rw[m4];obtain⟨rec,O⟩:∃ rec:LoopState->Option Code->Loop,rec=λst pe=>{ state:=st,pending:=pe,fn,tmps:=a.tmps,params:=ps,assign:=U,body,defers:=w.heap.size }:=⟨_,rfl⟩
 obtain⟨W1,b1⟩:∃ W1,(w.alloc (.deferred (some []))).alloc (.loop (rec .ready none))=W1:=⟨_,rfl⟩;have h5:W1.heap[w.heap.size+1]? = some (.loop (rec .ready none)):=by
  rw[<- b1];have:=World.alloc_heap_new (w.alloc (.deferred (some []))) (.loop (rec .ready none));rwa [World.size_alloc] at this
 have h2:W1.heap[w.heap.size]? = some (.deferred (some [])):=by
  rw[<- b1];exact(Below.heap_alloc _ _ _ (by simp)).trans (World.alloc_heap_new w _)
 have e0:∀ T,Lies T w W1:=λT=>by rw[<- b1];exact(Lies.alloc _ _ _).trans (Lies.alloc _ _ _)
 have g8:I [] T0 W1:=hI _ _ _ _ h0 (e0 _);have c6:=d7 _ _ _ h0;have h8:Bw w0 W1:=by
  rw[<- b1];exact d0.trans ((((ji _ w).alloc (ja _) _).alloc (by simp) _).mono d0.size)
 have m5:W1.heap.size=w.heap.size+2:=by rw[<- b1];simp
 have e1:¬Z w.heap.size:=λh=>absurd (hZ _ h) (by omega)
 have e8:¬Z (w.heap.size+1):=λh=>absurd (hZ _ h) (by omega)
 -- a step of the iterator: what is said of w's nX, and the law's own two nX, stand
 have a9:∀ {T:bL} {A B:Wd},Lies (λk=>T k\/(k<W1.heap.size/\¬Z k)) A B->Lies (λk=>T k\/(k<w.heap.size/\¬Z k)) A B:=λh=>h.mono λk hk=>hk.imp id λh=>⟨by omega,h.2⟩
 have b0:∀ {T:bL} {A:Wd} (hl:¬T (w.heap.size+1)) (o:Obj),Lies (λk=>T k\/(k<w.heap.size/\¬Z k)) A (A.putObj (w.heap.size+1) o):=λhl o=>Lies.putObj _ _ (λh=>h.elim hl λh=>by omega) o
 refine⟨w.heap.size+1,[{ target:=.collected w.heap.size,args:=#[] }],W1,{ target:=.fn (.func gf) lb,args:=#[.func (.yield (w.heap.size+1)) #[] #[]] },W1,gf,
  #[.func (.yield (w.heap.size+1)) #[] #[]]++lb,W1,?_,?_,?_,?_,h1,?_⟩
 ·rw[<- b1,O];exact run_enterLoop_outer _ _ _ _ _
 ·simp only[resolve,hg];simp[go_sem]
 ·intro f' f1;simp[Target.leads] at f1;subst f1;exact g3
 ·simp[invoke,go_sem,eg]
 ·refine(g1 (w.heap.size+1)
   (λJ T W=>(I J T W/\¬T w.heap.size/\¬T (w.heap.size+1))/\W.heap[w.heap.size+1]? = some (.loop (rec .ready none))/\W.heap[w.heap.size]? = some (.deferred (some [])))
   (λJ T W=>∃ c,(Ix c J T W/\¬T w.heap.size/\¬T (w.heap.size+1))/\W.heap[w.heap.size+1]? = some (.loop (rec .done (some c)))/\W.heap[w.heap.size]? = some (.deferred (some [])))
   T0 W1 h8 (by have:=d0.size;omega) (by omega)
   (λs T A B hs a5=>by
    obtain⟨⟨hi,hd,a0⟩,hl,hk⟩:=hs
    exact⟨⟨hI _ _ _ _ hi (a9 a5),hd,a0⟩,(a5.block _ (Array.getElem?_eq_some_iff.1 hl).1 (.inr ⟨by omega,e8⟩)).trans hl,(a5.block _ (Array.getElem?_eq_some_iff.1 hk).1 (.inr ⟨by omega,e1⟩)).trans hk⟩)
   (λs T A B hs a5=>by
    obtain⟨c,⟨hi,hd,a0⟩,hl,hk⟩:=hs
    exact⟨c,⟨c3 _ _ _ _ _ hi (a9 a5),hd,a0⟩,(a5.block _ (Array.getElem?_eq_some_iff.1 hl).1 (.inr ⟨by omega,e8⟩)).trans hl,(a5.block _ (Array.getElem?_eq_some_iff.1 hk).1 (.inr ⟨by omega,e1⟩)).trans hk⟩)
   (λs T A hs k hk=>d7 _ _ _ hs.1.1 k hk)
   ?_ h7
   ⟨⟨g8,λh=>absurd (c6 _ h) (by omega),λh=>absurd (c6 _ h) (by omega)⟩,h5,h2⟩ (λhi T W h=>f2 hi T W h.1.1)).mono ?_
  ·-- one round
   rintro J x T W c9 ⟨⟨hi,c2,a0⟩,hl,hk⟩;have k3:w.heap.size+1<W.heap.size:=(Array.getElem?_eq_some_iff.1 hl).1;have hy:=run_yield (P:=P) (args:=encs x) hl (by rw[O];exact m3 x);rw[O] at hy;refine⟨fn,_,U,body,hy,roundIn_of_wpIn h9 (wpIn_mono (c4 _ J x T W (by omega) c9 (by omega) hi) ?_)⟩;clear hy;rintro e a' Wa hp;cases e with
   | normal=>
    obtain⟨Ta,R,hm⟩:=hp;have f5:=(R.block _ k3 a0).trans hl;have k1:=(R.block _ (by omega) c2).trans hk;have f0:¬Ta w.heap.size:=λh=>(R.sub _ h).elim c2 (λh=>by omega)
    have c5:¬Ta (w.heap.size+1):=λh=>(R.sub _ h).elim a0 (λh=>by omega)
    have f7:w.heap.size+1<Wa.heap.size:=(Array.getElem?_eq_some_iff.1 f5).1;refine⟨_,run_beginRound f5 (by rw[O]),?_⟩;obtain⟨W2,b7⟩:=je (Wa.putObj (w.heap.size+1) (.loop { rec .ready none with state:=.busy }));have k2:W2.heap[w.heap.size+1]? = some (.loop { rec .ready none with state:=.busy }):=by rw[b7];exact World.putObj_heap_same f7
    have k0:W2.heap[w.heap.size]? = some (.deferred (some [])):=by rw[b7];exact(World.putObj_heap_other (by omega)).trans k1
    have a8:Lies (λk=>Ta k\/(k<w.heap.size/\¬Z k)) Wa W2:=by rw[b7];exact b0 c5 _
    have m6:W2.heap.size=Wa.heap.size:=by rw[b7];simp
    have m2:∀ k,k≠w.heap.size+1->W2.heap[k]? = Wa.heap[k]?:=λk hk=>by rw[b7];exact World.putObj_heap_other hk
    have k4:M J x a' Ta W2:=hM J x a' () _ _ _ hm a8;rw[<- b7];refine wpIn_mono (d1 _ J x a' Ta W2 (by omega) c9 (by omega) k4) ?_;have fin:∀(j:Option Code) (T3:bL) (W3:Wd),Turn Ta W2 T3 W3 ->
      (Instr.endRound (w.heap.size+1) j).run P W3 = .ok (.bool j.isNone) (W3.putObj (w.heap.size+1) (.loop (rec (if j.isNone then .ready else .done) j))) /\
      (¬T3 w.heap.size/\¬T3 (w.heap.size+1))/\Lies (λk=>T3 k\/(k<w.heap.size/\¬Z k)) W3 (W3.putObj (w.heap.size+1) (.loop (rec (if j.isNone then .ready else .done) j))) /\
      Turn (λk=>T k\/k=w.heap.size+1) W T3 (W3.putObj (w.heap.size+1) (.loop (rec (if j.isNone then .ready else .done) j))) /\
      (W3.putObj (w.heap.size+1) (.loop (rec (if j.isNone then .ready else .done) j))).heap[w.heap.size+1]? = some (.loop (rec (if j.isNone then .ready else .done) j)) /\
      (W3.putObj (w.heap.size+1) (.loop (rec (if j.isNone then .ready else .done) j))).heap[w.heap.size]? = some (.deferred (some [])):=λj T3 W3 K=>by
     have f3:=(K.block _ (by omega) c5).trans k2;have hd3:¬T3 w.heap.size:=λh=>(K.sub _ h).elim f0 (λh=>by omega)
     have c7:¬T3 (w.heap.size+1):=λh=>(K.sub _ h).elim c5 (λh=>by omega)
     have hrun:=run_endRound (P:=P) j f3;rw[O] at hrun ⊢;have f6:=(Array.getElem?_eq_some_iff.1 f3).1;refine⟨hrun,⟨hd3,c7⟩,b0 c7 _,⟨?_,?_,?_,?_,?_,?_⟩,World.putObj_heap_same f6,(World.putObj_heap_other (by omega)).trans ((K.block _ (by omega) f0).trans k0)⟩
     ·exact K.os.trans (a8.os.trans R.os)
     ·exact K.tape.trans (a8.tape.trans R.tape)
     ·exact K.output.trans (a8.output.trans R.output)
     ·have h3:=K.size;have h4:=R.size;simp;omega
     ·intro k hk g0;have f8:¬T k:=λh=>g0 (.inl h)
      have f9:k≠w.heap.size+1:=λh=>g0 (.inr h)
      have hs:=R.size;have m1:¬Ta k:=λh=>(R.sub _ h).elim f8 (λh=>by omega)
      exact(World.putObj_heap_other f9).trans ((K.block k (by omega) m1).trans ((m2 k f9).trans (R.block k hk f8)))
     ·intro k hk;have hs:=R.size;rcases K.sub k hk with h|h
      ·rcases R.sub k h with h|h
       ·exact .inl (.inl h)
       ·exact .inr h
      ·exact .inr (by omega)
    rintro e a3 W3 hp;cases e with
    | normal=>
     obtain⟨T3,K,a1⟩:=hp;obtain⟨hr,a6,V,a7,a4,a2⟩:=fin none T3 W3 K;exact⟨_,_,hr,T3,a7,.inl ⟨rfl,⟨hI _ _ _ _ a1 V,a6⟩,a4,a2⟩⟩
    | ret=>
     obtain⟨T3,K,a1⟩:=hp;obtain⟨hr,a6,V,a7,a4,a2⟩:=fin (some .ret) T3 W3 K;exact⟨_,_,hr,T3,a7,.inr ⟨rfl,.ret,⟨c3 _ _ _ _ _ a1 V,a6⟩,a4,a2⟩⟩
    | exit id=>
     obtain⟨T3,K,a1⟩:=hp;obtain⟨hr,a6,V,a7,a4,a2⟩:=fin (some (.exit id)) T3 W3 K;exact⟨_,_,hr,T3,a7,.inr ⟨rfl,.exit id,⟨c3 _ _ _ _ _ a1 V,a6⟩,a4,a2⟩⟩
    | goto t=>
     obtain⟨T3,K,a1⟩:=hp;obtain⟨hr,a6,V,a7,a4,a2⟩:=fin (some (.goto t)) T3 W3 K;exact⟨_,_,hr,T3,a7,.inr ⟨rfl,.goto t,⟨c3 _ _ _ _ _ a1 V,a6⟩,a4,a2⟩⟩
    | panic ch=>exact hp.elim
    | outgrown=>exact hp.elim
   | exit id=>exact hp.elim
   | goto t=>exact hp.elim
   | ret=>exact hp.elim
   | panic chain=>exact hp.elim
   | outgrown=>exact hp.elim
  ·-- behind the iterator
   rintro e W2 ⟨⟨v,rfl⟩,T,(⟨⟨hi,c2,a0⟩,hl,hk⟩|⟨J,h6,c,⟨hi,c2,a0⟩,hl,hk⟩)⟩
   ·exact⟨none,_,by have:=run_endLoop (P:=P) hl (by rw[O];simp);rw[O] at this;exact this,d2 _ T _ (ja _) (hI _ _ _ _ hi (b0 a0 _)) c2 ((World.putObj_heap_other (by omega)).trans hk)⟩
   ·exact⟨some c,_,by have:=run_endLoop (P:=P) hl (by rw[O];simp);rw[O] at this;exact this,d5 _ c J T _ (ja _) h6 (c3 c _ _ _ _ hi (b0 a0 _)) c2 ((World.putObj_heap_other (by omega)).trans hk)⟩
end Go.Proofs.YtiaigidbcljblaaGreatDoor
