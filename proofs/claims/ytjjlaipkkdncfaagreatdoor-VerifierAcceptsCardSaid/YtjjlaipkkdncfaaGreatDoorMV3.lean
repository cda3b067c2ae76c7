import Derived.Test.YtjjlaipkkdncfaaGreatDoorMV1
import Derived.Test.YtjjlaipkkdncfaaGreatDoorRows
import Derived.RangeFuncNested
import Derived.RangeFuncBound
import Derived.RangeFuncCalls
import Derived.RangeFuncLeaves
import Derived.Shelf.Abstract
import Derived.Shelf.RegionOpen
import Derived.WalkKit
import Derived.OwnWalkIn
import Derived.TacticsInMore
import Derived.LoopNIn
import Derived.LoopIn
set_option linter.unusedSimpArgs false
set_option maxRecDepth 100000
set_option maxHeartbeats 40000000
namespace Go.Proofs.YtjjlaipkkdncfaaGreatDoor
open Go.Proofs.Tryz
open Go.RowKit
abbrev bW:=Nat->Prop
structure Lies(T:bW)(W W':Wd):Prop where
 os:W'.os=W.os
 tape:W'.tape=W.tape
 output:W'.output=W.output
 size:W.heap.size<=W'.heap.size
 block:∀ k,k<W.heap.size->T k->W'.heap[k]? = W.heap[k]?
structure Turn(T:bW)(W:Wd)(T':bW)(W':Wd):Prop where
 os:W'.os=W.os
 tape:W'.tape=W.tape
 output:W'.output=W.output
 size:W.heap.size<=W'.heap.size
 block:∀ k,k<W.heap.size->¬T k->W'.heap[k]? = W.heap[k]?
 sub:∀ k,T' k->T k\/W.heap.size<=k
theorem Lies.refl(T:bW)(W:Wd):Lies T W W:=⟨rfl,rfl,rfl,ja _,λ_ _ _=>rfl⟩
theorem Lies.trans{T:bW}{A B C:Wd}(h:Lies T A B)(k:Lies T B C):Lies T A C:=
 ⟨k.os.trans h.os,k.tape.trans h.tape,k.output.trans h.output,jm h.size k.size,λi hi ht=>(k.block i (jp hi h.size) ht).trans (h.block i hi ht)⟩
theorem Lies.mono{T D:bW}{A B:Wd}(h:Lies T A B)(hs:∀ k,D k->T k):Lies D A B:=⟨h.os,h.tape,h.output,h.size,λk I ht=>h.block k I (hs k ht)⟩
theorem Lies.alloc(T:bW)(W:Wd)(o:Obj):Lies T W (W.alloc o):=⟨rfl,rfl,rfl,by simp,λk D _=>Below.heap_alloc W o k D⟩
theorem Lies.putObj(T:bW)(W:Wd){l:Nat}(D:¬T l)(o:Obj):Lies T W (W.putObj l o):=⟨rfl,rfl,rfl,by simp,λk _ ht=>World.putObj_heap_other (λe=>D (e ▸ ht))⟩
theorem Lies.of_below{T:bW}{W W':Wd}(h:Bw W W'):Lies T W W':=⟨h.os,h.tape,h.output,h.size,λk D _=>h.block k D⟩
theorem Lies.setCell(T:bW)(W:Wd)(b i:Nat)(hb:¬T b)(v:Value):Lies T W (W.setCell ⟨b,i,none⟩ v):=⟨rfl,rfl,rfl,by simp,λk _ ht=>Below.heap_setCell W ⟨b,i,none⟩ v k (λe=>hb (by cases e;exact ht))⟩
theorem Turn.refl(T:bW)(W:Wd):Turn T W T W:=⟨rfl,rfl,rfl,ja _,λ_ _ _=>rfl,λ_ h=>.inl h⟩
theorem Turn.trans{T I D:bW}{A B C:Wd}(h:Turn T A I B)(k:Turn I B D C):Turn T A D C:=
  ⟨k.os.trans h.os, k.tape.trans h.tape, k.output.trans h.output, Nat.le_trans h.size k.size,
   λi hi ht => (k.block i (Nat.lt_of_lt_of_le hi h.size) (λK => (h.sub i K).elim ht (λJ => by omega))).trans (h.block i hi ht),
   λi hi=>(k.sub i hi).elim (h.sub i) (λJ=>.inr (jm h.size J))⟩
theorem Turn.of_below{T:bW}{W W':Wd}(h:Bw W W'):Turn T W T W':=⟨h.os,h.tape,h.output,h.size,λk D _=>h.block k D,λ_ h=>.inl h⟩
theorem Turn.grow{T I:bW}{W W':Wd}(h:Turn T W I W'){D:bW}(hs:∀ k,D k->I k\/W.heap.size<=k):Turn T W D W':=
 ⟨h.os,h.tape,h.output,h.size,h.block,λk J=>(hs k J).elim (h.sub k) .inr⟩
def LX{β:Type}(N:Nat)(Z:bW)(J:β->bW->Wd->Prop):Prop:=∀ s T A B,J s T A->Lies (λk=>T k\/(k<N/\¬Z k)) A B->J s T B
def LY(inf:Prop){α:Type}(F:Fence)(n:Nat)(P:Program)(g:Nat)(lb:Wa)(encs:α->Wa)(X Z:bW)(all:List α)(w:Wd):Prop:=
 ∀(l:Nat) (J Jx:List α->bW->Wd->Prop) (T0:bW) (W:Wd),Bw w W->w.heap.size<=l->l<W.heap.size->LX W.heap.size Z J->LX W.heap.size Z Jx->(∀ s T A,J s T A->∀ k,T k->k<A.heap.size) ->
  (∀ pre x T W1,pre++[x] <+: all->J pre T W1->YieldAt F (n-1) P l (encs x) W1 λe W'=>∃ T',Turn (λk=>T k\/k=l) W1 T' W' /\
   ((e = .returned (.bool true)/\J (pre++[x]) T' W')\/(e = .returned (.bool false)/\Jx (pre++[x]) T' W'))) ->
  (∀ k,T0 k->¬X k)->J [] T0 W->(inf->∀ T W,¬J all T W) ->
  CallsIn F n P g (#[.func (.yield l) #[] #[]]++lb) W λe W'=>(∃ v,e = .returned v)/\∃ T',(J all T' W'\/(∃ pre,pre <+: all/\Jx pre T' W'))
abbrev SeqZ {α:Type} (F:Fence) (n:Nat) (P:Program) (g:Nat) (lb:Wa) (encs:α->Wa) (X Z:bW) (all:List α) (w:Wd):Prop:=LY False F n P g lb encs X Z all w
def LZ{α:Type}(I:List α->bW->Wd->Prop)(Ix:Code->List α->bW->Wd->Prop)(xs:List α)(T:bW)(W:Wd):Exit->Act->Wd->Prop
 | .normal,_,W'=>∃ T',Turn T W T' W'/\I xs T' W'
 | .ret,_,W'=>∃ T',Turn T W T' W'/\Ix .ret xs T' W'
 | .exit id,_,W'=>∃ T',Turn T W T' W'/\Ix (.exit id) xs T' W'
 | .goto t,_,W'=>∃ T',Turn T W T' W'/\Ix (.goto t) xs T' W'
 | .panic _,_,_=>False
 | .outgrown,_,_=>False
variable {F : Fence} {n : Nat} {P : Program}
theorem kY{α:Type}{g:Operand}{ps:Array Tmp}{V body:Code}{Q:Exit->Act->Wd->Prop}{a:Act}{w:Wd}
  (h7:F.round=none) (h1:F.depth.isSome=true->1<=n) {gf:Nat} {lb:Wa} (hg:a.eval g = .func (.func gf) #[] lb) (f2:F.fn gf) (eg:∀ args w,(callFunc gf args).run P w = .ok (.enter gf args) w)
  {encs:α->Wa} {X Z:bW} {all:List α} {w0:Wd} {f1:Prop} (f0:LY f1 F (n-1) P gf lb encs X Z all w0)
  (c7:Bw w0 w) (h6:∀ x,(encs x).size=ps.size) (hZ:∀ k,Z k->k<w.heap.size)
  (I:List α->bW->Wd->Prop) (Ix:Code->List α->bW->Wd->Prop) (M:List α->α->Act->bW->Wd->Prop) (T0:bW)
  (hI:LX w.heap.size Z I) (b9:∀ c,LX w.heap.size Z (Ix c)) (hM:∀ K x a',LX w.heap.size Z (fun(_:Unit) T W=>M K x a' T W)) (d2:∀ s T A,I s T A->∀ k,T k->k<A.heap.size) (f7:∀ k,T0 k->¬X k) (h0:I [] T0 w)
  (c2:∀(l:Nat) (K:List α) (x:α) (T:bW) (W:Wd),w.heap.size<=l->K++[x] <+: all->w.heap.size<=W.heap.size->I K T W ->
   V.wpIn (F.inRound l) (n-1-1) P (Exit.then (λa' W'=>∃ T',Turn T W T' W'/\M K x a' T' W') (λ_ _ _=>False)) { tmps:=(ps.zip (encs x)).foldl (λt (p,v)=>t.setIfInBounds p v) a.tmps,defers:=[] } W)
  (c9:∀(l:Nat) (K:List α) (x:α) (a':Act) (T:bW) (W:Wd),w.heap.size<=l->K++[x] <+: all->w.heap.size<=W.heap.size->M K x a' T W->body.wpIn (F.inRound l) (n-1-1) P (LZ I Ix (K++[x]) T W) a' W)
  (d0:∀(D:Nat) (T:bW) (W:Wd),w.heap.size<=D->I all T W->¬T D->W.heap[D]? = some (.deferred (some []))->Q .normal { a with defers:={ target:=.collected D,args:=#[] } :: a.defers } W)
  (d1:∀(D:Nat) (c:Code) (K:List α) (T:bW) (W:Wd),w.heap.size<=D->K <+: all->Ix c K T W->¬T D->W.heap[D]? = some (.deferred (some []))->c.wpIn F n P Q { a with defers:={ target:=.collected D,args:=#[] } :: a.defers } W) 
  (e1:f1->∀ T W,¬I all T W:=by exact λh=>h.elim):
  (Code.rangeFunc g ps V body).wpIn F n P Q a w:=by
 refine wpIn_rangeFunc ?_;intro fn f9;rw[h7];obtain⟨rec,R⟩:∃ rec:LoopState->Option Code->Loop,rec=λst pe=>{ state:=st,pending:=pe,fn,tmps:=a.tmps,params:=ps,assign:=V,body,defers:=w.heap.size }:=⟨_,rfl⟩
 obtain⟨W1,b2⟩:∃ W1,(w.alloc (.deferred (some []))).alloc (.loop (rec .ready none))=W1:=⟨_,rfl⟩;have f5:W1.heap[w.heap.size+1]? = some (.loop (rec .ready none)):=by
  rw[<- b2];have:=World.alloc_heap_new (w.alloc (.deferred (some []))) (.loop (rec .ready none));rwa [World.size_alloc] at this
 have f4:W1.heap[w.heap.size]? = some (.deferred (some [])):=by
  rw[<- b2];exact(Below.heap_alloc _ _ _ (by simp)).trans (World.alloc_heap_new w _)
 have d3:∀ T,Lies T w W1:=λT=>by rw[<- b2];exact(Lies.alloc _ _ _).trans (Lies.alloc _ _ _)
 have f3:I [] T0 W1:=hI _ _ _ _ h0 (d3 _);have c4:=d2 _ _ _ h0;have f8:Bw w0 W1:=by
  rw[<- b2];exact c7.trans ((((ji _ w).alloc (ja _) _).alloc (by simp) _).mono c7.size)
 have h8:W1.heap.size=w.heap.size+2:=by rw[<- b2];simp
 have d4:¬Z w.heap.size:=λh=>absurd (hZ _ h) (by omega)
 have d5:¬Z (w.heap.size+1):=λh=>absurd (hZ _ h) (by omega)
 -- a step of the iterator: what is said of w's mU, and the law's own two mU, stand
 have b0:∀ {T:bW} {A B:Wd},Lies (λk=>T k\/(k<W1.heap.size/\¬Z k)) A B->Lies (λk=>T k\/(k<w.heap.size/\¬Z k)) A B:=λh=>h.mono λk hk=>hk.imp id λh=>⟨by omega,h.2⟩
 have b1:∀ {T:bW} {A:Wd} (hl:¬T (w.heap.size+1)) (o:Obj),Lies (λk=>T k\/(k<w.heap.size/\¬Z k)) A (A.putObj (w.heap.size+1) o):=λhl o=>Lies.putObj _ _ (λh=>h.elim hl λh=>by omega) o
 refine⟨w.heap.size+1,[{ target:=.collected w.heap.size,args:=#[] }],W1,{ target:=.fn (.func gf) lb,args:=#[.func (.yield (w.heap.size+1)) #[] #[]] },W1,gf,
  #[.func (.yield (w.heap.size+1)) #[] #[]]++lb,W1,?_,?_,?_,?_,h1,?_⟩
 ·rw[<- b2,R];exact run_enterLoop_outer _ _ _ _ _
 ·simp only[resolve,hg];simp[go_sem]
 ·intro f' e0;simp[Target.leads] at e0;subst e0;exact f2
 ·simp[invoke,go_sem,eg]
 ·refine(f0 (w.heap.size+1)
   (λK T W=>(I K T W/\¬T w.heap.size/\¬T (w.heap.size+1))/\W.heap[w.heap.size+1]? = some (.loop (rec .ready none))/\W.heap[w.heap.size]? = some (.deferred (some [])))
   (λK T W=>∃ c,(Ix c K T W/\¬T w.heap.size/\¬T (w.heap.size+1))/\W.heap[w.heap.size+1]? = some (.loop (rec .done (some c)))/\W.heap[w.heap.size]? = some (.deferred (some [])))
   T0 W1 f8 (by have:=c7.size;omega) (by omega)
   (λs T A B hs a6=>by
    obtain⟨⟨hi,hd,a1⟩,hl,hk⟩:=hs
    exact⟨⟨hI _ _ _ _ hi (b0 a6),hd,a1⟩,(a6.block _ (Array.getElem?_eq_some_iff.1 hl).1 (.inr ⟨by omega,d5⟩)).trans hl,(a6.block _ (Array.getElem?_eq_some_iff.1 hk).1 (.inr ⟨by omega,d4⟩)).trans hk⟩)
   (λs T A B hs a6=>by
    obtain⟨c,⟨hi,hd,a1⟩,hl,hk⟩:=hs
    exact⟨c,⟨b9 _ _ _ _ _ hi (b0 a6),hd,a1⟩,(a6.block _ (Array.getElem?_eq_some_iff.1 hl).1 (.inr ⟨by omega,d5⟩)).trans hl,(a6.block _ (Array.getElem?_eq_some_iff.1 hk).1 (.inr ⟨by omega,d4⟩)).trans hk⟩)
   (λs T A hs k hk=>d2 _ _ _ hs.1.1 k hk)
   ?_ f7
   ⟨⟨f3,λh=>absurd (c4 _ h) (by omega),λh=>absurd (c4 _ h) (by omega)⟩,f5,f4⟩ (λhi T W h=>e1 hi T W h.1.1)).mono ?_
  ·-- one round
   rintro K x T W c6 ⟨⟨hi,b7,a1⟩,hl,hk⟩;have g3:w.heap.size+1<W.heap.size:=(Array.getElem?_eq_some_iff.1 hl).1;have hy:=run_yield (P:=P) (args:=encs x) hl (by rw[R];exact h6 x);rw[R] at hy;refine⟨fn,_,V,body,hy,roundIn_of_wpIn f9 (wpIn_mono (c2 _ K x T W (by omega) c6 (by omega) hi) ?_)⟩;clear hy;rintro e a' Wa hp;cases e with
   | normal=>
    obtain⟨Ta,U,hm⟩:=hp;have e3:=(U.block _ g3 a1).trans hl;have g1:=(U.block _ (by omega) b7).trans hk;have d7:¬Ta w.heap.size:=λh=>(U.sub _ h).elim b7 (λh=>by omega)
    have c3:¬Ta (w.heap.size+1):=λh=>(U.sub _ h).elim a1 (λh=>by omega)
    have e5:w.heap.size+1<Wa.heap.size:=(Array.getElem?_eq_some_iff.1 e3).1;refine⟨_,run_beginRound e3 (by rw[R]),?_⟩;obtain⟨W2,b3⟩:=je (Wa.putObj (w.heap.size+1) (.loop { rec .ready none with state:=.busy }));have g2:W2.heap[w.heap.size+1]? = some (.loop { rec .ready none with state:=.busy }):=by rw[b3];exact World.putObj_heap_same e5
    have g0:W2.heap[w.heap.size]? = some (.deferred (some [])):=by rw[b3];exact(World.putObj_heap_other (by omega)).trans g1
    have a9:Lies (λk=>Ta k\/(k<w.heap.size/\¬Z k)) Wa W2:=by rw[b3];exact b1 c3 _
    have h9:W2.heap.size=Wa.heap.size:=by rw[b3];simp
    have h5:∀ k,k≠w.heap.size+1->W2.heap[k]? = Wa.heap[k]?:=λk hk=>by rw[b3];exact World.putObj_heap_other hk
    have g8:M K x a' Ta W2:=hM K x a' () _ _ _ hm a9;rw[<- b3];refine wpIn_mono (c9 _ K x a' Ta W2 (by omega) c6 (by omega) g8) ?_;have fin:∀(J:Option Code) (T3:bW) (W3:Wd),Turn Ta W2 T3 W3 ->
      (Instr.endRound (w.heap.size+1) J).run P W3 = .ok (.bool J.isNone) (W3.putObj (w.heap.size+1) (.loop (rec (if J.isNone then .ready else .done) J))) /\
      (¬T3 w.heap.size/\¬T3 (w.heap.size+1))/\Lies (λk=>T3 k\/(k<w.heap.size/\¬Z k)) W3 (W3.putObj (w.heap.size+1) (.loop (rec (if J.isNone then .ready else .done) J))) /\
      Turn (λk=>T k\/k=w.heap.size+1) W T3 (W3.putObj (w.heap.size+1) (.loop (rec (if J.isNone then .ready else .done) J))) /\
      (W3.putObj (w.heap.size+1) (.loop (rec (if J.isNone then .ready else .done) J))).heap[w.heap.size+1]? = some (.loop (rec (if J.isNone then .ready else .done) J)) /\
      (W3.putObj (w.heap.size+1) (.loop (rec (if J.isNone then .ready else .done) J))).heap[w.heap.size]? = some (.deferred (some [])):=λJ T3 W3 O=>by
     have e2:=(O.block _ (by omega) c3).trans g2;have hd3:¬T3 w.heap.size:=λh=>(O.sub _ h).elim d7 (λh=>by omega)
     have c5:¬T3 (w.heap.size+1):=λh=>(O.sub _ h).elim c3 (λh=>by omega)
     have hrun:=run_endRound (P:=P) J e2;rw[R] at hrun ⊢;have e4:=(Array.getElem?_eq_some_iff.1 e2).1;refine⟨hrun,⟨hd3,c5⟩,b1 c5 _,⟨?_,?_,?_,?_,?_,?_⟩,World.putObj_heap_same e4,(World.putObj_heap_other (by omega)).trans ((O.block _ (by omega) d7).trans g0)⟩
     ·exact O.os.trans (a9.os.trans U.os)
     ·exact O.tape.trans (a9.tape.trans U.tape)
     ·exact O.output.trans (a9.output.trans U.output)
     ·have h3:=O.size;have h4:=U.size;simp;omega
     ·intro k hk e8;have e6:¬T k:=λh=>e8 (.inl h)
      have e7:k≠w.heap.size+1:=λh=>e8 (.inr h)
      have hs:=U.size;have h2:¬Ta k:=λh=>(U.sub _ h).elim e6 (λh=>by omega)
      exact(World.putObj_heap_other e7).trans ((O.block k (by omega) h2).trans ((h5 k e7).trans (U.block k hk e6)))
     ·intro k hk;have hs:=U.size;rcases O.sub k hk with h|h
      ·rcases U.sub k h with h|h
       ·exact .inl (.inl h)
       ·exact .inr h
      ·exact .inr (by omega)
    rintro e a3 W3 hp;cases e with
    | normal=>
     obtain⟨T3,O,a2⟩:=hp;obtain⟨hr,a7,a0,a8,a5,a4⟩:=fin none T3 W3 O;exact⟨_,_,hr,T3,a8,.inl ⟨rfl,⟨hI _ _ _ _ a2 a0,a7⟩,a5,a4⟩⟩
    | ret=>
     obtain⟨T3,O,a2⟩:=hp;obtain⟨hr,a7,a0,a8,a5,a4⟩:=fin (some .ret) T3 W3 O;exact⟨_,_,hr,T3,a8,.inr ⟨rfl,.ret,⟨b9 _ _ _ _ _ a2 a0,a7⟩,a5,a4⟩⟩
    | exit id=>
     obtain⟨T3,O,a2⟩:=hp;obtain⟨hr,a7,a0,a8,a5,a4⟩:=fin (some (.exit id)) T3 W3 O;exact⟨_,_,hr,T3,a8,.inr ⟨rfl,.exit id,⟨b9 _ _ _ _ _ a2 a0,a7⟩,a5,a4⟩⟩
    | goto t=>
     obtain⟨T3,O,a2⟩:=hp;obtain⟨hr,a7,a0,a8,a5,a4⟩:=fin (some (.goto t)) T3 W3 O;exact⟨_,_,hr,T3,a8,.inr ⟨rfl,.goto t,⟨b9 _ _ _ _ _ a2 a0,a7⟩,a5,a4⟩⟩
    | panic ch=>exact hp.elim
    | outgrown=>exact hp.elim
   | exit id=>exact hp.elim
   | goto t=>exact hp.elim
   | ret=>exact hp.elim
   | panic chain=>exact hp.elim
   | outgrown=>exact hp.elim
  ·-- behind the iterator
   rintro e W2 ⟨⟨v,rfl⟩,T,(⟨⟨hi,b7,a1⟩,hl,hk⟩|⟨K,f6,c,⟨hi,b7,a1⟩,hl,hk⟩)⟩
   ·exact⟨none,_,by have:=run_endLoop (P:=P) hl (by rw[R];simp);rw[R] at this;exact this,d0 _ T _ (ja _) (hI _ _ _ _ hi (b1 a1 _)) b7 ((World.putObj_heap_other (by omega)).trans hk)⟩
   ·exact⟨some c,_,by have:=run_endLoop (P:=P) hl (by rw[R];simp);rw[R] at this;exact this,d1 _ c K T _ (ja _) f6 (b9 c _ _ _ _ hi (b1 a1 _)) b7 ((World.putObj_heap_other (by omega)).trans hk)⟩
end Go.Proofs.YtjjlaipkkdncfaaGreatDoor
