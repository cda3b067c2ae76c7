import Derived.RangeFuncNested
import Derived.RangeFuncBound
import Derived.RangeFuncCalls
import Derived.RangeFuncLeaves
import Derived.Shelf.Abstract
import Derived.Shelf.RegionOpen
import Derived.OwnWalkIn
import Derived.TacticsInMore
import Derived.LoopNIn
import Derived.LoopIn
import Derived.Test.YtombncedfleljaaGreatMC12
set_option linter.unusedSimpArgs false
set_option maxRecDepth 100000
set_option maxHeartbeats 40000000
namespace Go.Proofs.YtombncedfleljaaGreat
section
open Go.RowKit
abbrev dG:=Nat→Prop
structure Lies(T:dG)(W W':World):Prop where
 os:W'.os=W.os
 tape:W'.tape=W.tape
 output:W'.output=W.output
 size:W.heap.size≤W'.heap.size
 block:∀ k,k<W.heap.size→T k→W'.heap[k]? = W.heap[k]?
structure Turn(T:dG)(W:World)(T':dG)(W':World):Prop where
 os:W'.os=W.os
 tape:W'.tape=W.tape
 output:W'.output=W.output
 size:W.heap.size≤W'.heap.size
 block:∀ k,k<W.heap.size→¬T k→W'.heap[k]? = W.heap[k]?
 sub:∀ k,T' k→T k∨W.heap.size≤k
theorem Lies.refl(T:dG)(W:World):Lies T W W:=⟨rfl,rfl,rfl,Nat.le_refl _,fun _ _ _=>rfl⟩
theorem Lies.trans{T:dG}{A B C:World}(h:Lies T A B)(k:Lies T B C):Lies T A C:=
 ⟨k.os.trans h.os,k.tape.trans h.tape,k.output.trans h.output,Nat.le_trans h.size k.size,fun i hi ht=>(k.block i (Nat.lt_of_lt_of_le hi h.size) ht).trans (h.block i hi ht)⟩
theorem Lies.mono{T T':dG}{A B:World}(h:Lies T A B)(hs:∀ k,T' k→T k):Lies T' A B:=⟨h.os,h.tape,h.output,h.size,fun k hk ht=>h.block k hk (hs k ht)⟩
theorem Lies.alloc(T:dG)(W:World)(o:Obj):Lies T W (W.alloc o):=⟨rfl,rfl,rfl,by simp,fun k hk _=>Below.heap_alloc W o k hk⟩
theorem Lies.putObj(T:dG)(W:World){l:Nat}(hl:¬T l)(o:Obj):Lies T W (W.putObj l o):=⟨rfl,rfl,rfl,by simp,fun k _ ht=>World.putObj_heap_other (fun e=>hl (e ▸ ht))⟩
theorem Lies.of_below{T:dG}{W W':World}(h:Below W.heap.size W W'):Lies T W W':=⟨h.os,h.tape,h.output,h.size,fun k hk _=>h.block k hk⟩
theorem Lies.setCell(T:dG)(W:World)(b i:Nat)(hb:¬T b)(v:Value):Lies T W (W.setCell ⟨b,i,none⟩ v):=⟨rfl,rfl,rfl,by simp,fun k _ ht=>Below.heap_setCell W ⟨b,i,none⟩ v k (fun e=>hb (by cases e;exact ht))⟩
theorem Turn.refl(T:dG)(W:World):Turn T W T W:=⟨rfl,rfl,rfl,Nat.le_refl _,fun _ _ _=>rfl,fun _ h=>.inl h⟩
theorem Turn.trans{T T' T'':dG}{A B C:World}(h:Turn T A T' B)(k:Turn T' B T'' C):Turn T A T'' C:=
  ⟨k.os.trans h.os, k.tape.trans h.tape, k.output.trans h.output, Nat.le_trans h.size k.size,
   fun i hi ht => (k.block i (Nat.lt_of_lt_of_le hi h.size) (fun h' => (h.sub i h').elim ht (fun h2 => by omega))).trans (h.block i hi ht),
   fun i hi=>(k.sub i hi).elim (h.sub i) (fun h2=>.inr (Nat.le_trans h.size h2))⟩
theorem Turn.of_below{T:dG}{W W':World}(h:Below W.heap.size W W'):Turn T W T W':=⟨h.os,h.tape,h.output,h.size,fun k hk _=>h.block k hk,fun _ h=>.inl h⟩
theorem Turn.grow{T T':dG}{W W':World}(h:Turn T W T' W'){T'':dG}(hs:∀ k,T'' k→T' k∨W.heap.size≤k):Turn T W T'' W':=
 ⟨h.os,h.tape,h.output,h.size,h.block,fun k hk=>(hs k hk).elim (h.sub k) .inr⟩
def FU{β:Type}(N:Nat)(Z:dG)(J:β→dG→World→Prop):Prop:=∀ s T A B,J s T A→Lies (fun k=>T k∨(k<N∧¬Z k)) A B→J s T B
def SeqZ{α:Type}(F:Fence)(n:Nat)(P:Program)(g:Nat)(lb:Array Value)(encs:α→Array Value)(X Z:dG)(all:List α)(w:World):Prop:=
 ∀(l:Nat) (J Jx:List α→dG→World→Prop) (T0:dG) (W:World),Below w.heap.size w W→w.heap.size≤l→l<W.heap.size→FU W.heap.size Z J→FU W.heap.size Z Jx→(∀ s T A,J s T A→∀ k,T k→k<A.heap.size) →
  (∀ pre x T W1,pre++[x] <+: all→J pre T W1→YieldAt F (n-1) P l (encs x) W1 fun e W'=>∃ T',Turn (fun k=>T k∨k=l) W1 T' W' ∧
   ((e = .returned (.bool true)∧J (pre++[x]) T' W')∨(e = .returned (.bool false)∧Jx (pre++[x]) T' W'))) →
  (∀ k,T0 k→¬X k)→J [] T0 W →
  CallsIn F n P g (#[.func (.yield l) #[] #[]]++lb) W fun e W'=>(∃ v,e = .returned v)∧∃ T',(J all T' W'∨(∃ pre,pre <+: all∧Jx pre T' W'))
def LO{α:Type}(I:List α→dG→World→Prop)(Ix:Code→List α→dG→World→Prop)(xs:List α)(T:dG)(W:World):Exit→Act→World→Prop
 | .normal,_,W'=>∃ T',Turn T W T' W'∧I xs T' W'
 | .ret,_,W'=>∃ T',Turn T W T' W'∧Ix .ret xs T' W'
 | .exit id,_,W'=>∃ T',Turn T W T' W'∧Ix (.exit id) xs T' W'
 | .goto t,_,W'=>∃ T',Turn T W T' W'∧Ix (.goto t) xs T' W'
 | .panic _,_,_=>False
 | .outgrown,_,_=>False
variable {F : Fence} {n : Nat} {P : Program}
theorem oA{α:Type}{g:Operand}{ps:Array Tmp}{assign body:Code}{Q:Exit→Act→World→Prop}{a:Act}{w:World}
  (hro:F.round=none) (h1:F.depth.isSome=true→1≤n) {gf:Nat} {lb:Array Value} (hg:a.eval g = .func (.func gf) #[] lb) (hFg:F.fn gf) (eg:∀ args w,(callFunc gf args).run P w = .ok (.enter gf args) w)
  {encs:α→Array Value} {X Z:dG} {all:List α} {w0:World} (hseq:SeqZ F (n-1) P gf lb encs X Z all w0)
  (hb0:Below w0.heap.size w0 w) (hps:∀ x,(encs x).size=ps.size) (hZ:∀ k,Z k→k<w.heap.size)
  (I:List α→dG→World→Prop) (Ix:Code→List α→dG→World→Prop) (M:List α→α→Act→dG→World→Prop) (T0:dG)
  (hI:FU w.heap.size Z I) (hIx:∀ c,FU w.heap.size Z (Ix c)) (hM:∀ pre x a',FU w.heap.size Z (fun(_:Unit) T W=>M pre x a' T W)) (hIT:∀ s T A,I s T A→∀ k,T k→k<A.heap.size) (hT0:∀ k,T0 k→¬X k) (h0:I [] T0 w)
  (hassign:∀(l:Nat) (pre:List α) (x:α) (T:dG) (W:World),w.heap.size≤l→pre++[x] <+: all→w.heap.size≤W.heap.size→I pre T W →
   assign.wpIn (F.inRound l) (n-1-1) P (Exit.then (fun a' W'=>∃ T',Turn T W T' W'∧M pre x a' T' W') (fun _ _ _=>False)) { tmps:=(ps.zip (encs x)).foldl (fun t (p,v)=>t.setIfInBounds p v) a.tmps,defers:=[] } W)
  (hbody:∀(l:Nat) (pre:List α) (x:α) (a':Act) (T:dG) (W:World),w.heap.size≤l→pre++[x] <+: all→w.heap.size≤W.heap.size→M pre x a' T W→body.wpIn (F.inRound l) (n-1-1) P (LO I Ix (pre++[x]) T W) a' W)
  (hdone:∀(D:Nat) (T:dG) (W:World),w.heap.size≤D→I all T W→¬T D→W.heap[D]? = some (.deferred (some []))→Q .normal { a with defers:={ target:=.collected D,args:=#[] } :: a.defers } W)
  (hstop:∀(D:Nat) (c:Code) (pre:List α) (T:dG) (W:World),w.heap.size≤D→pre <+: all→Ix c pre T W→¬T D→W.heap[D]? = some (.deferred (some []))→c.wpIn F n P Q { a with defers:={ target:=.collected D,args:=#[] } :: a.defers } W):
  (Code.rangeFunc g ps assign body).wpIn F n P Q a w:=by
 refine wpIn_rangeFunc ?_;intro fn hfn;rw[hro];obtain⟨rec,hrec⟩:∃ rec:LoopState→Option Code→Loop,rec=fun st pe=>{ state:=st,pending:=pe,fn,tmps:=a.tmps,params:=ps,assign,body,defers:=w.heap.size }:=⟨_,rfl⟩
 obtain⟨W1,hW1⟩:∃ W1,(w.alloc (.deferred (some []))).alloc (.loop (rec .ready none))=W1:=⟨_,rfl⟩;have hL1:W1.heap[w.heap.size+1]? = some (.loop (rec .ready none)):=by
  rw[← hW1];have:=World.alloc_heap_new (w.alloc (.deferred (some []))) (.loop (rec .ready none));rwa [World.size_alloc] at this
 have hK1:W1.heap[w.heap.size]? = some (.deferred (some [])):=by
  rw[← hW1];exact(Below.heap_alloc _ _ _ (by simp)).trans (World.alloc_heap_new w _)
 have hLi1:∀ T,Lies T w W1:=fun T=>by rw[← hW1];exact(Lies.alloc _ _ _).trans (Lies.alloc _ _ _)
 have hI1:I [] T0 W1:=hI _ _ _ _ h0 (hLi1 _);have hT0w:=hIT _ _ _ h0;have hb1:Below w0.heap.size w0 W1:=by
  rw[← hW1];exact hb0.trans ((((Below.refl _ w).alloc (Nat.le_refl _) _).alloc (by simp) _).mono hb0.size)
 have hs1:W1.heap.size=w.heap.size+2:=by rw[← hW1];simp
 have hZD:¬Z w.heap.size:=fun h=>absurd (hZ _ h) (by omega)
 have hZl:¬Z (w.heap.size+1):=fun h=>absurd (hZ _ h) (by omega)
 -- a step of the iterator: what is said of w's fC, and the law's own two fC, stand
 have hmonoL:∀ {T:dG} {A B:World},Lies (fun k=>T k∨(k<W1.heap.size∧¬Z k)) A B→Lies (fun k=>T k∨(k<w.heap.size∧¬Z k)) A B:=fun h=>h.mono fun k hk=>hk.imp id fun h=>⟨by omega,h.2⟩
 have hput:∀ {T:dG} {A:World} (hl:¬T (w.heap.size+1)) (o:Obj),Lies (fun k=>T k∨(k<w.heap.size∧¬Z k)) A (A.putObj (w.heap.size+1) o):=fun hl o=>Lies.putObj _ _ (fun h=>h.elim hl fun h=>by omega) o
 refine⟨w.heap.size+1,[{ target:=.collected w.heap.size,args:=#[] }],W1,{ target:=.fn (.func gf) lb,args:=#[.func (.yield (w.heap.size+1)) #[] #[]] },W1,gf,
  #[.func (.yield (w.heap.size+1)) #[] #[]]++lb,W1,?_,?_,?_,?_,h1,?_⟩
 ·rw[← hW1,hrec];exact run_enterLoop_outer _ _ _ _ _
 ·simp only[resolve,hg];simp[go_sem]
 ·intro f' hf';simp[Target.leads] at hf';subst hf';exact hFg
 ·simp[invoke,go_sem,eg]
 ·refine(hseq (w.heap.size+1)
   (fun pre T W=>(I pre T W∧¬T w.heap.size∧¬T (w.heap.size+1))∧W.heap[w.heap.size+1]? = some (.loop (rec .ready none))∧W.heap[w.heap.size]? = some (.deferred (some [])))
   (fun pre T W=>∃ c,(Ix c pre T W∧¬T w.heap.size∧¬T (w.heap.size+1))∧W.heap[w.heap.size+1]? = some (.loop (rec .done (some c)))∧W.heap[w.heap.size]? = some (.deferred (some [])))
   T0 W1 hb1 (by have:=hb0.size;omega) (by omega)
   (fun s T A B hs hli=>by
    obtain⟨⟨hi,hd,hl0⟩,hl,hk⟩:=hs
    exact⟨⟨hI _ _ _ _ hi (hmonoL hli),hd,hl0⟩,(hli.block _ (Array.getElem?_eq_some_iff.1 hl).1 (.inr ⟨by omega,hZl⟩)).trans hl,(hli.block _ (Array.getElem?_eq_some_iff.1 hk).1 (.inr ⟨by omega,hZD⟩)).trans hk⟩)
   (fun s T A B hs hli=>by
    obtain⟨c,⟨hi,hd,hl0⟩,hl,hk⟩:=hs
    exact⟨c,⟨hIx _ _ _ _ _ hi (hmonoL hli),hd,hl0⟩,(hli.block _ (Array.getElem?_eq_some_iff.1 hl).1 (.inr ⟨by omega,hZl⟩)).trans hl,(hli.block _ (Array.getElem?_eq_some_iff.1 hk).1 (.inr ⟨by omega,hZD⟩)).trans hk⟩)
   (fun s T A hs k hk=>hIT _ _ _ hs.1.1 k hk)
   ?_ hT0
   ⟨⟨hI1,fun h=>absurd (hT0w _ h) (by omega),fun h=>absurd (hT0w _ h) (by omega)⟩,hL1,hK1⟩).mono ?_
  ·-- one round
   rintro pre x T W hlen ⟨⟨hi,hd0,hl0⟩,hl,hk⟩;have hlt:w.heap.size+1<W.heap.size:=(Array.getElem?_eq_some_iff.1 hl).1;have hy:=run_yield (P:=P) (args:=encs x) hl (by rw[hrec];exact hps x);rw[hrec] at hy;refine⟨fn,_,assign,body,hy,roundIn_of_wpIn hfn (wpIn_mono (hassign _ pre x T W (by omega) hlen (by omega) hi) ?_)⟩;clear hy;rintro e a' Wa hp;cases e with
   | normal=>
    obtain⟨Ta,hta,hm⟩:=hp;have hla:=(hta.block _ hlt hl0).trans hl;have hka:=(hta.block _ (by omega) hd0).trans hk;have hda:¬Ta w.heap.size:=fun h=>(hta.sub _ h).elim hd0 (fun h=>by omega)
    have hla0:¬Ta (w.heap.size+1):=fun h=>(hta.sub _ h).elim hl0 (fun h=>by omega)
    have hlta:w.heap.size+1<Wa.heap.size:=(Array.getElem?_eq_some_iff.1 hla).1;refine⟨_,run_beginRound hla (by rw[hrec]),?_⟩;obtain⟨W2,hW2⟩:=je (Wa.putObj (w.heap.size+1) (.loop { rec .ready none with state:=.busy }));have hl2:W2.heap[w.heap.size+1]? = some (.loop { rec .ready none with state:=.busy }):=by rw[hW2];exact World.putObj_heap_same hlta
    have hk2:W2.heap[w.heap.size]? = some (.deferred (some [])):=by rw[hW2];exact(World.putObj_heap_other (by omega)).trans hka
    have hli2:Lies (fun k=>Ta k∨(k<w.heap.size∧¬Z k)) Wa W2:=by rw[hW2];exact hput hla0 _
    have hz2:W2.heap.size=Wa.heap.size:=by rw[hW2];simp
    have ho2:∀ k,k≠w.heap.size+1→W2.heap[k]? = Wa.heap[k]?:=fun k hk=>by rw[hW2];exact World.putObj_heap_other hk
    have hm2:M pre x a' Ta W2:=hM pre x a' () _ _ _ hm hli2;rw[← hW2];refine wpIn_mono (hbody _ pre x a' Ta W2 (by omega) hlen (by omega) hm2) ?_;have fin:∀(jump:Option Code) (T3:dG) (W3:World),Turn Ta W2 T3 W3 →
      (Instr.endRound (w.heap.size+1) jump).run P W3 = .ok (.bool jump.isNone) (W3.putObj (w.heap.size+1) (.loop (rec (if jump.isNone then .ready else .done) jump))) ∧
      (¬T3 w.heap.size∧¬T3 (w.heap.size+1))∧Lies (fun k=>T3 k∨(k<w.heap.size∧¬Z k)) W3 (W3.putObj (w.heap.size+1) (.loop (rec (if jump.isNone then .ready else .done) jump))) ∧
      Turn (fun k=>T k∨k=w.heap.size+1) W T3 (W3.putObj (w.heap.size+1) (.loop (rec (if jump.isNone then .ready else .done) jump))) ∧
      (W3.putObj (w.heap.size+1) (.loop (rec (if jump.isNone then .ready else .done) jump))).heap[w.heap.size+1]? = some (.loop (rec (if jump.isNone then .ready else .done) jump)) ∧
      (W3.putObj (w.heap.size+1) (.loop (rec (if jump.isNone then .ready else .done) jump))).heap[w.heap.size]? = some (.deferred (some [])):=fun jump T3 W3 ht3=>by
     have hl3:=(ht3.block _ (by omega) hla0).trans hl2;have hd3:¬T3 w.heap.size:=fun h=>(ht3.sub _ h).elim hda (fun h=>by omega)
     have hl30:¬T3 (w.heap.size+1):=fun h=>(ht3.sub _ h).elim hla0 (fun h=>by omega)
     have hrun:=run_endRound (P:=P) jump hl3;rw[hrec] at hrun ⊢;have hlt3:=(Array.getElem?_eq_some_iff.1 hl3).1;refine⟨hrun,⟨hd3,hl30⟩,hput hl30 _,⟨?_,?_,?_,?_,?_,?_⟩,World.putObj_heap_same hlt3,(World.putObj_heap_other (by omega)).trans ((ht3.block _ (by omega) hda).trans hk2)⟩
     ·exact ht3.os.trans (hli2.os.trans hta.os)
     ·exact ht3.tape.trans (hli2.tape.trans hta.tape)
     ·exact ht3.output.trans (hli2.output.trans hta.output)
     ·have h3:=ht3.size;have h4:=hta.size;simp;omega
     ·intro k hk hnt;have hn1:¬T k:=fun h=>hnt (.inl h)
      have hn2:k≠w.heap.size+1:=fun h=>hnt (.inr h)
      have hs:=hta.size;have hna:¬Ta k:=fun h=>(hta.sub _ h).elim hn1 (fun h=>by omega)
      exact(World.putObj_heap_other hn2).trans ((ht3.block k (by omega) hna).trans ((ho2 k hn2).trans (hta.block k hk hn1)))
     ·intro k hk;have hs:=hta.size;rcases ht3.sub k hk with h|h
      ·rcases hta.sub k h with h|h
       ·exact .inl (.inl h)
       ·exact .inr h
      ·exact .inr (by omega)
    rintro e a3 W3 hp;cases e with
    | normal=>
     obtain⟨T3,ht3,hi3⟩:=hp;obtain⟨hr,hn3,hli3,htu,hl4,hk4⟩:=fin none T3 W3 ht3;exact⟨_,_,hr,T3,htu,.inl ⟨rfl,⟨hI _ _ _ _ hi3 hli3,hn3⟩,hl4,hk4⟩⟩
    | ret=>
     obtain⟨T3,ht3,hi3⟩:=hp;obtain⟨hr,hn3,hli3,htu,hl4,hk4⟩:=fin (some .ret) T3 W3 ht3;exact⟨_,_,hr,T3,htu,.inr ⟨rfl,.ret,⟨hIx _ _ _ _ _ hi3 hli3,hn3⟩,hl4,hk4⟩⟩
    | exit id=>
     obtain⟨T3,ht3,hi3⟩:=hp;obtain⟨hr,hn3,hli3,htu,hl4,hk4⟩:=fin (some (.exit id)) T3 W3 ht3;exact⟨_,_,hr,T3,htu,.inr ⟨rfl,.exit id,⟨hIx _ _ _ _ _ hi3 hli3,hn3⟩,hl4,hk4⟩⟩
    | goto t=>
     obtain⟨T3,ht3,hi3⟩:=hp;obtain⟨hr,hn3,hli3,htu,hl4,hk4⟩:=fin (some (.goto t)) T3 W3 ht3;exact⟨_,_,hr,T3,htu,.inr ⟨rfl,.goto t,⟨hIx _ _ _ _ _ hi3 hli3,hn3⟩,hl4,hk4⟩⟩
    | panic ch=>exact hp.elim
    | outgrown=>exact hp.elim
   | exit id=>exact hp.elim
   | goto t=>exact hp.elim
   | ret=>exact hp.elim
   | panic chain=>exact hp.elim
   | outgrown=>exact hp.elim
  ·-- behind the iterator
   rintro e W2 ⟨⟨v,rfl⟩,T,(⟨⟨hi,hd0,hl0⟩,hl,hk⟩|⟨pre,hSp,c,⟨hi,hd0,hl0⟩,hl,hk⟩)⟩
   ·exact⟨none,_,by have:=run_endLoop (P:=P) hl (by rw[hrec];simp);rw[hrec] at this;exact this,hdone _ T _ (Nat.le_refl _) (hI _ _ _ _ hi (hput hl0 _)) hd0 ((World.putObj_heap_other (by omega)).trans hk)⟩
   ·exact⟨some c,_,by have:=run_endLoop (P:=P) hl (by rw[hrec];simp);rw[hrec] at this;exact this,hstop _ c pre T _ (Nat.le_refl _) hSp (hIx c _ _ _ _ hi (hput hl0 _)) hd0 ((World.putObj_heap_other (by omega)).trans hk)⟩
end
section
open Go.RowKit
section
variable {F : Fence} {n : Nat} {P : Program} {ops : Array Oper} {rest : List Oper} {o : Oper} {a : Act} {w : World} {Q : Exit → Act → World → Prop}
theorem JF{v:Value}{w':World}(hF:∀ f,F.fn f)(hs:∀ ρ,o.semAt F.round ρ=execOp ρ o)(hw:Region.wanted o (yielded ops a.tmps)=true)(hrun:(execOp a.eval o).run P w = .ok (.value v) w')
  (h:wpListIn F n P ops Q rest (a.put o.dst v) w'):wpListIn F n P ops Q (o :: rest) a w:=
 wpListIn_step fun K hK=>by
  rw[if_pos hw];refine⟨fun f _=>hF f,?_⟩;rw[hs,hrun];exact hK _ _ h
theorem LP{w':World}(hF:∀ f,F.fn f)(hs:∀ ρ,o.semAt F.round ρ=execOp ρ o)(hw:Region.wanted o (yielded ops a.tmps)=true)(hrun:(execOp a.eval o).run P w = .ok .skip w')
  (h:wpListIn F n P ops Q rest (a.put o.dst undef) w'):wpListIn F n P ops Q (o :: rest) a w:=
 wpListIn_step fun K hK=>by
  rw[if_pos hw];refine⟨fun f _=>hF f,?_⟩;rw[hs,hrun];exact hK _ _ h
theorem iLd(ty:TypeId)(x:Operand)(ho:o.op = .load ty x)(hF:∀ f,F.fn f)(hw:Region.wanted o (yielded ops a.tmps)=true)
  {b off:Nat} (hx:a.eval x = .pointer (some ⟨b,off,none⟩)) {cs:List Value} {d:TypeDesc} (hc:w.rangeAt b off cs)
  (hu:P.underlying ty=some d) (hd:d.isRow=true) (hi:(P.info? ty).map (·.size)=some cs.length)
  (h:wpListIn F n P ops Q rest (a.put o.dst (.agg cs.toArray)) w):wpListIn F n P ops Q (o :: rest) a w:=by
 refine JF hF (fun ρ=>Oper.semAt_eq _ _ _ (fun c=>by rw[ho];exact fun e=>by cases e)) hw ?_ h;unfold execOp;simp only[ho,hx,Instr.loadAt,Instr.sureAddr,Sem.run_bind,Sem.run_pure,Result.andThen_ok,run_loadVar_mid w b off ty cs d hc hu hd hi]
theorem iSt(ty:TypeId)(x y:Operand)(ho:o.op = .store ty x y)(hF:∀ f,F.fn f)(hw:Region.wanted o (yielded ops a.tmps)=true)
  {g t:Nat} {old cells:Array Value} (hx:a.eval x = .pointer (some ⟨g,0,none⟩)) (hy:a.eval y = .agg cells) (hB:Blk w g t old)
  (hi:(P.info? ty).map (·.size)=some cells.size) (hold:old.size=cells.size) (h1:cells.all (·.oneCell')=true)
  (h:∀ w2,Blk w2 g t cells→Below g w w2→(∀ g',g'≠g→w2.heap[g']? = w.heap[g']?)→w2.heap.size=w.heap.size→wpListIn F n P ops Q rest (a.put o.dst undef) w2):
  wpListIn F n P ops Q (o :: rest) a w:=by
 refine LP (w':=w.setRow g cells) hF (fun ρ=>Oper.semAt_eq _ _ _ (fun c=>by rw[ho];exact fun e=>by cases e)) hw ?_ ?_
 ·unfold execOp;simp only[ho,hx,hy,Instr.storeAt,Instr.sureAddr,Sem.run_bind,Sem.run_pure,Result.andThen_ok,run_storeVar_row w g t ty old cells hB hi hold h1]
 ·exact h _ (setRow_heap w g old cells t (0,0) hB) ⟨rfl,rfl,rfl,by simp,fun k hk=>setRow_other w g k cells (by omega)⟩ (fun g' hg=>setRow_other w g g' cells hg) (by simp)
theorem vV(ty:TypeId)(x y:Operand)(ho:o.op = .store ty x y)(hF:∀ f,F.fn f)
  {old cells:Array Value} {t:TypeId} (hw:Region.wanted o (yielded ops a.tmps)=true) (hx:a.eval x = .pointer (some ⟨w.heap.size,0,none⟩)) (hy:a.eval y = .agg cells)
  (hi:(P.info? ty).map (·.size)=some cells.size) (hold:old.size=cells.size) (h1:cells.all (·.oneCell')=true)
  (h:∀ w2,w2=w.alloc (.cells cells t)→wpListIn F n P ops Q rest (a.put o.dst undef) w2):wpListIn F n P ops Q (o :: rest) a (w.alloc (.cells old t)):=by
 refine LP (w':=w.alloc (.cells cells t)) hF (fun ρ=>Oper.semAt_eq _ _ _ (fun c=>by rw[ho];exact fun e=>by cases e)) hw ?_ (h _ rfl);unfold execOp;simp only[ho,hx,hy,Instr.storeAt,Instr.sureAddr,Sem.run_bind,Sem.run_pure,Result.andThen_ok,run_storeVar_row (w.alloc (.cells old t)) w.heap.size t ty old cells (heap_alloc_new w _) hi hold h1];rw[mX]
theorem iAl(ty:TypeId)(zs:Array Value)(ho:o.op = .alloc ty)(hF:∀ f,F.fn f)(hw:Region.wanted o (yielded ops a.tmps)=true)(hz:∀ w,(zeroValue ty).run P w = .ok (.agg zs) w)
  (h:wpListIn F n P ops Q rest (a.put o.dst (.pointer (some ⟨w.heap.size,0,none⟩))) (w.alloc (.cells zs ty))):wpListIn F n P ops Q (o :: rest) a w:=by
 refine JF (v:=.pointer (some ⟨w.heap.size,0,none⟩)) (w':=w.alloc (.cells zs ty)) hF (fun ρ=>Oper.semAt_eq _ _ _ (fun c=>by rw[ho];exact fun e=>by cases e)) hw ?_ h;unfold execOp;simp only[ho];unfold Instr.alloc newVar newRow;simp[Sem.run_bind,hz,Value.cells]
theorem L8{t e s bytes:Nat}(T:SlT P t e s bytes)(p q:Operand)(hF:∀ f,F.fn f)
  (ho:o.op = .call { callee:=.builtin .append,args:=#[p,q],argTypes:=#[t,t] }) (hw:Region.wanted o (yielded ops a.tmps)=true)
  {base k m:Nat} {v x:Value} {xs news:List Value} (hv:a.eval p=v) (hown:w.ownsRow base e s v k xs) (hxv:a.eval q=x) (hx:Sn w s x m news)
  (h1:∀ u∈news,u.oneCell'=true) (h63:k+m≤maxLen) (hbytes:(k+m)*bytes≤140737488355328) (hbase:base≤w.heap.size)
  (h:∀ v' w',w'.ownsRow base e s v' (k+m) (xs++news)→w.grownBy w' v.ownBlock→(v'.ownBlock=v.ownBlock∨v'.ownBlock=some w.heap.size)→wpListIn F n P ops Q rest (a.put o.dst v') w'):
  wpListIn F n P ops Q (o :: rest) a w:=by
 obtain⟨v',w',hrun,h2,h3,h4⟩:=iY (ty:=o.type) T hown hx h1 h63 hbytes hbase;refine JF (v:=v') (w':=w') hF (fun ρ=>Oper.semAt_eq _ _ _ (fun c=>by rw[ho];exact fun e=>by cases e)) hw ?_ (h v' w' h2 h3 h4);unfold execOp;simp only[ho,resolve,invoke,builtin,Sem.run_bind,Sem.run_pure,Result.andThen_ok,List.map_toArray,List.map_cons,List.map_nil,hv,hxv,hrun]
end
theorem JG(f:FuncId):Fence.wide.fn f:=trivial
theorem dU(l:Nat)(f:FuncId):(Fence.wide.inRound l).fn f:=trivial
theorem inR{P:Program}{n:Nat}{f:FuncId}{args:Array Value}{w:World}{R:Ending→World→Prop}(l:Nat)(h:Calls P f args w R):CallsIn (Fence.wide.inRound l) n P f args w R:=CallsIn.inRound l (callsIn_wide.2 h)
theorem yP{P:Program}{f:FuncId}{fn:Func}{c:Code}{args:Array Value}{w:World}{R:Ending→World→Prop}(hf:P.funcs[f]? = some fn)(hb:fn.body=some c)
  (h:c.wpIn Fence.wide 9 P (bodyPostM Fence.wide 9 P fn R) { tmps:=args++Array.replicate (fn.ntmps-args.size) undef,defers:=[] } w):Calls P f args w R:=
 callsIn_wide.1 (callsIn_of_wp_marks hf hb trivial h)
end
section
open Go.RowKit
attribute [local irreducible] wpQuiet wpAnyH
attribute [local go_sem] Oper.semAt_some
theorem Turn.blk{T T':dG}{W W':World}(h:Turn T W T' W'){g:Nat}{t:TypeId}{cs:Array Value}(hB:Blk W g t cs)(hg:¬T g):Blk W' g t cs:=(h.block g hB.lt hg).trans hB
theorem Lies.blk{T:dG}{W W':World}(h:Lies T W W'){g:Nat}{t:TypeId}{cs:Array Value}(hB:Blk W g t cs)(hg:T g):Blk W' g t cs:=(h.block g hB.lt hg).trans hB
def rdA(d:DiskD)(a:Int):Ans:=if d.down then some (12,none) else if eD d a then none else some (15,some a)
theorem JH(d:DiskD)(a:Int):rdE d a=cC (rdA d a):=by
 unfold rdE rdA;split;· rfl
 split <;> rfl
def dY(d:DiskD)(a:Int):Nat→List (List Int×Ans)
 | 0=>[]
 | n+1=>(rdS d a,rdA d a) :: if rdA d a=none then dY d (a+1) n else []
def JI(x:List Int×Ans):Array Value:=#[.agg (u8s x.1).toArray,cC x.2]
theorem qB{d:DiskD}(h:DOk d)(a:Int):Sec (rdS d a):=by
 unfold rdS;split
 ·exact eC
 ·split
  ·rename_i hb;unfold eD at hb;simp at hb;exact B6 h a hb.1 hb.2
  ·exact eC
def XS(N gs gd:Nat):dG:=fun k=>k<N∨k=gs∨k=gd
structure SIt(wN:World)(gs gd:Nat)(f z:Int)(g:Nat)(T:dG)(wr:World):Prop where
 bs:Blk wr gs 106 #[.int .i64 f,.int .i64 z]
 bd:Blk wr gd 25 #[.pointer (some ⟨g,0,none⟩)]
 bel:Below wN.heap.size wN wr
 nT:∀ k,T k→¬XS wN.heap.size gs gd k
theorem FV(f:Int)(z:Nat)(wN:World)(m:DiskM)(d:DiskD)(gs gd:Nat)(w:World)(hK:DK wN m d)(hb:Below wN.heap.size wN w)(h1:Blk w gs 106 #[.int .i64 f,.int .i64 z])(h2:Blk w gd 25 #[.pointer (some ⟨m.g,0,none⟩)])
  (hgs:wN.heap.size≤gs∧wN.heap.size≤gd) (hf:0≤f∧f≤100000) (hz:z≤100000):
  SeqZ Fence.wide 9 Tryz.prog 142 #[.pointer (some ⟨gs,0,none⟩),.pointer (some ⟨gd,0,none⟩)] JI (XS wN.heap.size gs gd) (fun _=>False) (dY d f z) w:=by
 intro ly J Jx T0 W hW hly1 hly2 hJ hJx hJT hY hT0 h0;have HI0:Hid (SIt wN gs gd f z m.g T0 W):=jz ⟨h1.keep hW,h2.keep hW,aB hb hW,hT0⟩;have hsz1:=h1.lt;have hsz2:=h2.lt;have HNE:=jz (show gs≠ly∧gd≠ly∧wN.heap.size≤ly by have:=hb.size;omega);have HJ0:=jz h0;have HK:=jz hK;have HGS:=jz hgs;have hf1:0≤f:=hf.1;have hf2:f≤100000:=hf.2;clear h1 h2 hT0 h0 hK hb hgs hf;refine callsIn_of_wp Tryz.func142 rfl trivial ?_ rfl;simp only[Tryz.ntmps142,js,List.length_cons,List.length_nil,Nat.reduceAdd,Nat.reduceSub,Array.replicate_succ,Array.replicate_zero,List.push_toArray,List.append_toArray,List.nil_append,List.cons_append];refine wpIn_wide.2 ?_;have c1:=HI0.bs.cell 1;simp only[List.getElem?_toArray,List.getElem?_cons_succ,List.getElem?_cons_zero] at c1;have hz0:(0:Int)≤z:=by omega
 go_wp2_with fail
 clear c1;go_loopw [9] (fun i wr=>∃(k:Nat) (pre:List (List Int×Ans)) (T:dG),k≤z∧i = .int .i64 k∧Hid (J pre T wr)∧Hid (SIt wN gs gd f z m.g T wr)∧Hid (dY d f z=pre++dY d (f+k) (z-k))) (fun i _=>z-(intOf i).toNat)
 case atStart=>exact⟨0,[],T0,Nat.zero_le _,rfl,HJ0,HI0,jz (by simp)⟩
 case round=>
  clear HJ0 HI0;obtain⟨k,pre,T,hk,rfl,HJ,HI,HL⟩:=hrel;rcases Nat.lt_or_ge k z with hlt|hge
  ·have c0:=HI.bs.cell 0;have d0:=HI.bd.cell 0;simp only[List.getElem?_toArray,List.getElem?_cons_zero] at c0 d0;have HKr:Hid (DK wr m d):=jz (HK.keep HI.bel);have hll:dY d (f+k) (z-k)=(rdS d (f+k),rdA d (f+k)) :: if rdA d (f+k)=none then dY d (f+k+1) (z-(k+1)) else []:=by
    rw[show z-k=(z-(k+1))+1 by omega];rfl
   have HLL:=jz hll;obtain⟨S,hS⟩:=je (rdS d (f+k));have HSS:Hid (Sec S):=jz (by rw[hS];exact qB HKr.ok _);have HSZ:Hid ((Tryz.prog.info? 144).map (·.size)=some (u8s S).toArray.size∧z64.size=(u8s S).toArray.size∧(Tryz.prog.info? 144).map (·.size)=some (u8s S).length):=jz ⟨by rw[js,aG HSS.out];kernel_rfl,by rw[cN,js,aG HSS.out],by rw[aG HSS.out];kernel_rfl⟩;have HSO:=jz (cS S);have hi0:(0:Int)≤k:=by omega
   have hi1:(k:Int)<z:=by omega
   obtain⟨x,hx⟩:=je (rdA d (f+k));have HRD:Hid (Calls Tryz.prog 90 #[.pointer (some ⟨m.g,0,none⟩),.int .i64 (f+k)] wr fun e w'=>e = .returned (.tuple #[.agg (u8s S).toArray,cC x])∧Below wr.heap.size wr w'):=jz (by
    rw[hS,hx,← JH]
    exact tV (f+k) wr m d HKr.out ⟨by omega,by omega⟩)
   have hpre:pre++[(S,x)] <+: dY d f z:=by rw[HL.out,hll,hS,hx];exact⟨if rdA d (f+k)=none then dY d (f+k+1) (z-(k+1)) else [],by simp⟩
   have HPRE:=jz hpre;have HEX:Hid (x≠none→dY d f z=pre++[(S,x)]):=jz (fun hn=>by rw[HL.out,hll,hS,hx,if_neg (by rw[← hx];exact hn)]);have HNX:Hid (x=none→dY d f z=(pre++[(S,x)])++dY d (f+((k+1:Nat):Int)) (z-(k+1))):=jz (fun hn=>by
    rw[HL.out,hll,hS,hx,if_pos (by rw[← hx];exact hn)]
    have:f+(k:Int)+1=f+((k+1:Nat):Int):=by omega
    rw[this];simp)
   clear hll HLL hS hx hpre HL HKr;go_upto_region 4 with (first
    | (go_at_call 90;refine HRD.mono ?_;rintro e w1 ⟨rfl,hb1⟩;have HB1:=jz hb1;clear hb1)
    | (refine al 144 z64 rfl rfl cK ?_)
    | (refine cR 144 (.tmp 5) (.tmp 19) rfl rfl rfl rfl HSZ.out.1 HSZ.out.2.1 HSO.out ?_;intro w2 hK2 hb2 hz2;have HB2:=jz hb2;have HR2:Hid (w2.rangeAt w1.heap.size 0 (u8s S)):=jz (by have:=Blk.range (show Blk w2 w1.heap.size 144 (u8s S).toArray from hK2);rw[jt] at this;exact this);have HZ2:=jz hz2;clear hK2 hb2 hz2))
   have HBL:Hid (Below wr.heap.size wr w2):=jz (aB HB1.out HB2.out);have hJ1:J pre T w2:=hJ _ _ _ _ HJ.out (Lies.of_below HBL.out);obtain⟨fn,tmps,assign,body,hy,hR⟩:=hY _ _ T w2 HPRE.out hJ1;have HBS:=jz (HI.bs.keep HBL.out);have HBD:=jz (HI.bd.keep HBL.out);have HBE:Hid (Below wN.heap.size wN w2):=jz (aB HI.bel HBL.out);dsimp only [JI] at hy;refine(wpIn_wide (n:=9)).1 ?_;gi_wp2_with (refine iLd 144 _ rfl JG rfl rfl HR2.out Tryz.underlying144 rfl HSZ.out.2.2 ?_)
   refine hR.mono ?_;rintro e wD ⟨T',hT,⟨rfl,hJD⟩|⟨rfl,hJD⟩⟩
   ·have hnX:∀ k,(T k∨k=ly)→¬XS wN.heap.size gs gd k:=fun j h hx=>h.elim (fun h=>HI.nT j h hx) (fun e=>by
     have h1:=HNE.out
     subst e
     rcases hx with hx|hx|hx
     ·omega
     ·exact h1.1 hx.symm
     ·exact h1.2.1 hx.symm)
    have hsN:=HBE.size;have hs1:=HBS.lt;have hs2:=HBD.lt;have HID:Hid (SIt wN gs gd f z m.g T' wD):=jz ⟨hT.blk HBS.out (fun h=>hnX _ h (.inr (.inl rfl))),hT.blk HBD.out (fun h=>hnX _ h (.inr (.inr rfl))),
     ⟨hT.os.trans HBE.os,hT.tape.trans HBE.tape,hT.output.trans HBE.output,Nat.le_trans HBE.size hT.size,fun j hj=>(hT.block j (by omega) (fun h=>hnX _ h (.inl hj))).trans (HBE.block j hj)⟩,
     fun j hj hx=>(hT.sub j hj).elim (fun h=>hnX j h hx) (fun h=>by
      rcases hx with hx|hx|hx <;> omega)⟩
    have HJD:=jz hJD;clear hR hy hT hnX hsN hs1 hs2 hJD hJ1 hY;cases x with
    | none=>
     have hv:cC none = .nilIface:=rfl;rw[hv];gi_wp2_with fail
     go_wp2_with fail
     exact⟨⟨k+1,_,T',by omega,by go_num,HJD,HID,jz (HNX.out (by simp))⟩,by simp[intOf];omega⟩
    | some y=>
     obtain⟨t,u,hv⟩:=cV y;rw[hv];have hne:=dS t u;clear hv;gi_wp2_with fail
     go_wp2_with fail
     refine bodyPost_ret (results_none rfl _ _ _) rfl ?_;exact⟨⟨_,rfl⟩,T',.inl (by rw[HEX.out (by simp)];exact HJD.out)⟩
   ·have HJD:=jz hJD;clear hR hy hT hJD hJ1 hY;gi_wp2_with fail
    go_wp2_with fail
    refine bodyPost_ret (results_none rfl _ _ _) rfl ?_;exact⟨⟨_,rfl⟩,T',.inr ⟨_,HPRE.out,HJD.out⟩⟩
  ·obtain rfl:k=z:=by omega
   have HF:Hid (J (dY d f k) T wr):=jz (by rw[HL.out,Nat.sub_self];show J (pre++[]) T wr;rw[List.append_nil];exact HJ.out);clear HL HJ;go_wp2_with fail
   go_end0
   exact⟨⟨_,rfl⟩,T,.inl HF.out⟩
end
section
open Go.RowKit
attribute [local irreducible] wpQuiet wpAnyH
theorem D8{P:Program}{n m l f:Nat}{tmps:Array Value}{assign body:Code}{w:World}{R:Ending→World→Prop}(h:RoundIn Fence.wide n P l f tmps assign body w R):RoundIn Fence.wide m P l f tmps assign body w R:=
 ⟨trivial,fun c cs _=>h.2 c cs (room_wide _)⟩
theorem D9{P:Program}{n m l:Nat}{args:Array Value}{w:World}{R:Ending→World→Prop}(h:YieldAt Fence.wide n P l args w R):YieldAt Fence.wide m P l args w R:=by
 obtain⟨fn,tmps,assign,body,h1,h2⟩:=h;exact⟨fn,tmps,assign,body,h1,D8 h2⟩
theorem SeqZ.any{P:Program}{α:Type}{n m g:Nat}{lb:Array Value}{encs:α→Array Value}{X Z:dG}{all:List α}{w:World}(h:SeqZ Fence.wide n P g lb encs X Z all w):SeqZ Fence.wide m P g lb encs X Z all w:=
 fun l J Jx T0 W a1 a2 a3 a4 a5 a6 a7 a8 a9=>callsIn_wide.2 (callsIn_wide.1 (h l J Jx T0 W a1 a2 a3 a4 a5 a6 (fun pre x T W1 b1 b2=>D9 (a7 pre x T W1 b1 b2)) a8 a9))
abbrev aW:=List Int×Int
abbrev SSt:=Option Nat×List aW
def eM(st:SSt)(s:List Int):Option SSt:=match st.1 with
 | none=>(fH s).map (fun g=>(some g,[]))
 | some g=>match fB s with|some (g',e)=>if g'=g then some (some g,st.2++[e]) else none|none=>none
def dM:SSt→List (List Int×Ans)→SSt×Ans
 | st,[]=>(st,none)
 | _,(_,some y) :: _=>((none,[]),some y)
 | st,(s,none) :: r=>match eM st s with|some st'=>dM st' r|none=>(st,none)
def LQ(all:List (List Int×Ans))(pre:List (List Int×Ans))(st:SSt):Prop:=∀ rest,all=pre++rest→dM (none,[]) all=dM st rest
def stZ:Array Value:=#[.bool false,.int .u32 0,.slice none 0 0]
theorem rG:∀ w,(zeroValue 164).run Tryz.prog w = .ok (.agg stZ) w:=fun w=>by unfold stZ;kernel_rfl
theorem KT:Tryz.prog.built 164 []=some stZ:=by unfold stZ;kernel_rfl
def stC(st:SSt)(v:Value):Array Value:=#[.bool st.1.isSome,.int .u32 (st.1.getD 0:Nat),v]
theorem CE{s:List Int}(hb:Bys s){g:Nat}{e:aW}(h:fB s=some (g,e)):EntOk e:=by
 unfold fB at h;cases hp:prs s with
 | none=>rw[hp] at h;cases h
 | some x=>
  obtain⟨g',p⟩:=x;rw[hp] at h;simp only at h;split at h
  ·rename_i hc;injection h with h
   injection h with _ h
   rw[← h];refine⟨⟨by show(p.take 32).length=32;rw[List.length_take];omega,fun b hb'=>nC hb hp b (List.mem_of_mem_take hb')⟩,?_⟩;show aK ((beN (p.drop 32):Nat):Int);exact⟨by omega,by omega⟩
  ·cases h
theorem EA{st st':SSt}{s:List Int}(h:eM st s=some st'):st'.2.length≤st.2.length+1∧st'.1≠none:=by
 unfold eM at h;cases h1:st.1 with
 | none=>
  rw[h1] at h;simp only[Option.map_eq_some_iff] at h;obtain⟨g,_,rfl⟩:=h;simp
 | some g=>
  rw[h1] at h;simp only at h;split at h
  ·split at h
   ·injection h with h;rw[← h];simp
   ·cases h
  ·cases h
theorem t7{d:DiskD}(h:DOk d):∀(n:Nat) (a:Int),∀ x∈dY d a n,Sec x.1
 | 0,_,x,hx=>by cases hx
 | n+1,a,x,hx=>by
  unfold dY at hx;rcases List.mem_cons.1 hx with rfl|hx
  ·exact qB h a
  ·split at hx
   ·exact t7 h n _ x hx
   ·cases hx
theorem t8(d:DiskD):∀(n:Nat) (a:Int),(dY d a n).length≤n
 | 0,_=>Nat.le_refl _
 | n+1,a=>by
  unfold dY;rw[List.length_cons];split
  ·have:=t8 d n (a+1);omega
  ·simp
theorem nF{w w':World}{base e s n:Nat}{v:Value}{xs:List Value}(h:w.ownsRow base e s v n xs)(hb:∀ b,v.ownBlock=some b→w'.heap[b]? = w.heap[b]?):w'.ownsRow base e s v n xs:=by
 refine⟨h.1,?_⟩;rcases h.2 with h2|⟨g,cap,cur,rfl,hg,hh,r⟩
 ·exact .inl h2
 ·exact .inr ⟨g,cap,cur,rfl,hg,by rw[hb g rfl];exact hh,r⟩
structure SS(w:World)(N:Nat)(k:Nat)(st:SSt)(v:Value)(T:dG)(U:World):Prop where
 b4:Blk U (N+1) 164 stZ
 b5:Blk U (N+2) 42 #[.nilIface]
 b6:Blk U (N+3) 164 (stC st v)
 own:U.ownsRow (N+6) 35 33 v st.2.length (st.2.flatMap aC)
 ownT:∀ j,v.ownBlock=some j→T j
 bel:Below N w U
 tin:T (N+1)∧T (N+2)∧T (N+3)
 tsub:∀ j,T j→j=N+1∨j=N+2∨j=N+3∨N+6≤j
 tlt:∀ j,T j→j<U.heap.size
 size:N+6≤U.heap.size
 ok:∀ q∈st.2,EntOk q
 len:st.2.length≤k
 nil:st.1=none→st.2=[]∧v = .slice none 0 0
theorem SS.stab{w:World}{N k:Nat}{st:SSt}{v:Value}{T:dG}{A B:World}(h:SS w N k st v T A){M:Nat}(hM:N+6≤M)(hl:Lies (fun k=>T k∨(k<M∧¬False)) A B):SS w N k st v T B where
 b4:=hl.blk h.b4 (.inl h.tin.1)
 b5:=hl.blk h.b5 (.inl h.tin.2.1)
 b6:=hl.blk h.b6 (.inl h.tin.2.2)
 own:=nF h.own (fun j hj=>hl.block j (h.own.lt j hj).2 (.inl (h.ownT j hj)))
 ownT:=h.ownT
 bel:=⟨hl.os.trans h.bel.os,hl.tape.trans h.bel.tape,hl.output.trans h.bel.output,Nat.le_trans h.bel.size hl.size,fun j hj=>(hl.block j (by have:=h.size;omega) (.inr ⟨by omega,fun h=>h⟩)).trans (h.bel.block j hj)⟩
 tin:=h.tin
 tsub:=h.tsub
 tlt:=fun j hj=>Nat.lt_of_lt_of_le (h.tlt j hj) hl.size
 size:=Nat.le_trans h.size hl.size
 ok:=h.ok
 len:=h.len
 nil:=h.nil
theorem yQ(g:Nat)(f z:Int)(w:World):
  Calls Tryz.prog 122 #[.pointer (some ⟨g,0,none⟩),.agg #[.int .i64 f,.int .i64 z]] w fun e w'=>e = .returned (.func (.func 142) #[] #[.pointer (some ⟨w.heap.size+1,0,none⟩),.pointer (some ⟨w.heap.size,0,none⟩)])∧w'=(w.alloc (.cells #[.pointer (some ⟨g,0,none⟩)] 25)).alloc (.cells #[.int .i64 f,.int .i64 z] 106):=by
 go_enter Tryz.func122,Tryz.ntmps122
 go_wp2_with fail
 go_ret;exact⟨rfl,rfl⟩
end
end Go.Proofs.YtombncedfleljaaGreat
