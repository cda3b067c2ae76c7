import Derived.Test.YtiaigidbcljblaaGreatDoorME14
import Derived.Test.YtiaigidbcljblaaGreatDoorME29
import Derived.Test.YtiaigidbcljblaaGreatDoorME13
import Derived.LoopNIn
set_option linter.unusedSimpArgs false
set_option maxRecDepth 100000
set_option maxHeartbeats 40000000
namespace Go.Proofs.YtiaigidbcljblaaGreatDoor
open Go.RowKit
attribute [local irreducible] wpQuiet wpAnyH
attribute [local go_sem] Oper.semAt_some
def runL:List (Bs×Bool)→Nat→List OpD→Nat×List OpD
 | [],_,acc=>(0,acc)
 | (w,b) :: ls,n,acc=>if b then (if skipL w then runL ls (n+1) acc else match parseL w with
  | none=>(n+1,[])
  | some o=>runL ls (n+1) (acc++[o])) else (n+1,[])
theorem runL_skip{w:Bs}(ls:List (Bs×Bool))(n:Nat)(acc:List OpD)(h:skipL w=true):runL ((w,true) :: ls) n acc=runL ls (n+1) acc:=by
 show(if true=true then (if skipL w then runL ls (n+1) acc else _) else _)=_
 rw[if_pos rfl,if_pos h]
theorem runL_none{w:Bs}(ls:List (Bs×Bool))(n:Nat)(acc:List OpD)(h:skipL w=false)(hp:parseL w=none):runL ((w,true) :: ls) n acc=(n+1,[]):=by
 show(if true=true then (if skipL w then runL ls (n+1) acc else match parseL w with|none=>_|some o=>_) else _)=_
 rw[if_pos rfl,if_neg (by rw[h];exact Bool.false_ne_true),hp]
theorem runL_some{w:Bs}{o:OpD}(ls:List (Bs×Bool))(n:Nat)(acc:List OpD)(h:skipL w=false)(hp:parseL w=some o):runL ((w,true) :: ls) n acc=runL ls (n+1) (acc++[o]):=by
 show(if true=true then (if skipL w then runL ls (n+1) acc else match parseL w with|none=>_|some o=>_) else _)=_
 rw[if_pos rfl,if_neg (by rw[h];exact Bool.false_ne_true),hp]
theorem runL_runT:∀(ws:List Bs) (n:Nat) (acc:List OpD),runT ws n acc=runL (linesW ws) n acc
 | [],_,_=>rfl
 | [w],n,acc=>by
  rw[runT_last]
  unfold linesW
  cases w <;> rfl
 | w :: x :: ws,n,acc=>by
  have hl:linesW (w :: x :: ws)=(w,true) :: linesW (x :: ws):=rfl
  rw[hl]
  have hr:runL ((w,true) :: linesW (x :: ws)) n acc=if skipL w then runL (linesW (x :: ws)) (n+1) acc else match parseL w with
   | none=>(n+1,[])
   | some o=>runL (linesW (x :: ws)) (n+1) (acc++[o]):=rfl
  rw[hr]
  cases hs:skipL w with
  | true=>rw[runT_skip _ _ _ hs (by simp),runL_runT];rfl
  | false=>
   cases hp:parseL w with
   | none=>rw[runT_none _ _ _ hs (by simp) hp];rfl
   | some o=>rw[runT_some _ _ _ hs (by simp) hp,runL_runT];rfl
theorem parseT_lines(s:Bs):parseT s=runL (linesL s) 0 []:=runL_runT _ _ _
theorem linesW_len:∀ ws:List Bs,(linesW ws).length≤ws.length
 | []=>Nat.le_refl _
 | [w]=>by
  unfold linesW
  split <;> simp
 | w :: x :: ws=>by
  have:=linesW_len (x :: ws)
  show(linesW (x :: ws)).length+1≤_
  simp at this ⊢
  omega
theorem split_len(c:UInt8):∀ s:Bs,(split c s).length≤s.length+1
 | []=>Nat.le_refl _
 | x :: s=>by
  have:=split_len c s
  rw[split_cons]
  split
  ·simp;omega
  ·simp;omega
theorem linesL_len(s:Bs):(linesL s).length≤s.length+1:=Nat.le_trans (linesW_len _) (split_len 10 s)
theorem linesW_mem:∀(ws:List Bs) (x:Bs×Bool),x∈linesW ws→x.1∈ws
 | [],x,h=>by cases h
 | [w],x,h=>by
  unfold linesW at h
  split at h
  ·cases h
  ·simp at h;rw[h];simp
 | w :: y :: ws,x,h=>by
  have h:x∈(w,true) :: linesW (y :: ws):=h
  rw[List.mem_cons] at h
  rcases h with rfl|h
  ·simp
  ·have:=linesW_mem (y :: ws) x h
   simp at this ⊢
   exact .inr this
theorem split_mem_len(c:UInt8):∀(s:Bs) (x:Bs),x∈split c s→x.length≤s.length
 | [],x,h=>by simp[split] at h;rw[h];simp
 | y :: s,x,h=>by
  have ih:=split_mem_len c s
  obtain⟨w,ws,e⟩:=split_form c s
  rw[split_cons] at h
  rw[e] at ih h
  split at h
  ·rw[List.mem_cons] at h
   rcases h with rfl|h
   ·simp
   ·have:=ih x h;simp;omega
  ·rw[List.headD_cons,List.tail_cons,List.mem_cons] at h
   rcases h with rfl|h
   ·have:=ih w (by simp);simp;omega
   ·have:=ih x (by simp[h]);simp;omega
theorem line_le{s:Bs}{x:Bs×Bool}(h:x∈linesL s):x.1.length≤s.length:=split_mem_len 10 s _ (linesW_mem _ x h)
def errZ(z:Int):Value:=.iface 145 (.agg #[.int .i64 16,.int .i64 z])
def errV(n:Nat):Value:=errZ (n:Int)
theorem fault_new(z:Int)(w:World):Calls Tryz.prog 38 #[.int .i64 16,.int .i64 z] w fun e w'=>e = .returned (.iface 145 (.agg #[.int .i64 16,.int .i64 z]))∧w'=w:=by
 go_enter Tryz.func38,Tryz.ntmps38
 go_wp2_with fail
 go_ret
 exact⟨rfl,rfl⟩
theorem lines_any(s:Bs)(w:World):Calls Tryz.prog 62 #[.string (SBy s)] w fun e w'=>e = .returned (.func (.func 92) #[] #[.pointer (some ⟨w.heap.size,0,none⟩)])∧w'=w.alloc (.cells #[.string (SBy s)] 9):=by
 go_enter Tryz.func62,Tryz.ntmps62
 go_wp2_with fail
 go_ret
 exact⟨rfl,rfl⟩
theorem SM.ne{w:World}{b n g:Nat}{f:Bs→Option Value}{t:TypeId}{cs:Array Value}(h:SM w b n f)(hB:Blk w g t cs):b≠g:=by
 obtain⟨D,⟨es,clock,hb,_⟩,_⟩:=h
 intro e
 subst e
 unfold Blk at hB
 rw[hb] at hB
 cases hB
def opInT(N:Nat)(T:Terr)(x:OpR):Prop:=(∀ b off,x.A=some ⟨b,off,none⟩→T b∧N≤b)∧(∀ b off,x.B=some ⟨b,off,none⟩→T b∧N≤b)
theorem own_blkT{w w':World}{base e s n:Nat}{v:Value}{xs:List Value}(h:w.ownsRow base e s v n xs)(hb:∀ k,v.ownBlock=some k→w'.heap[k]? = w.heap[k]?):w'.ownsRow base e s v n xs:=by
 refine⟨h.1,?_⟩
 rcases h.2 with h'|⟨g,cap,cur,rfl,h2,h3,h4⟩
 ·exact .inl h'
 ·exact .inr ⟨g,cap,cur,rfl,h2,(hb g rfl).trans h3,h4⟩
theorem Sn.blks{s n cap:Nat}{A:Option Addr}{xs:List Value}{W W':World}(h:Sn W s (.slice A n cap) n xs)(hb:∀ b off,A=some ⟨b,off,none⟩→b<W.heap.size→W'.heap[b]? = W.heap[b]?):Sn W' s (.slice A n cap) n xs:=by
 obtain⟨A',cap',hv,hc,hl,hx⟩:=h
 injection hv with hA _ hcp
 subst hA hcp
 refine⟨_,_,rfl,hc,hl,fun hp=>?_⟩
 obtain⟨b,off,e,hcell⟩:=hx hp
 exact⟨b,off,e,fun j u hj=>(World.cell?_of_block (hb b off e (cell_lt (hcell j u hj)))).trans (hcell j u hj)⟩
structure FS(w:World)(N g2 g3 g4 g5 g6 b:Nat)(pre:List (Bs×Bool))(v:Value)(R:List OpR)(T:Terr)(W:World):Prop where
 b2:Blk W g2 38 #[.slice none 0 0]
 b3:Blk W g3 42 #[.nilIface]
 b4:Blk W g4 131 #[.map (some b)]
 b5:Blk W g5 38 #[v]
 b6:Blk W g6 3 #[.int .i64 pre.length]
 map:SM W b 6 (kmap 6)
 ml:ML W
 own:W.ownsRow N 71 4 v R.length (R.flatMap opC)
 ownT:∀ k,v.ownBlock=some k→T k
 ops:∀ x∈R,OpI W x∧opInT N T x
 len:R.length≤pre.length
 sep:∀ x∈R,(∀ b off,x.A=some ⟨b,off,none⟩→v.ownBlock≠some b)∧(∀ b off,x.B=some ⟨b,off,none⟩→v.ownBlock≠some b)
 bel:Below w.heap.size w W
 size:N≤W.heap.size
 tin:T g2∧T g3∧T g5∧T g6
 tsub:∀ k,T k→k=g2∨k=g3∨k=g5∨k=g6∨N≤k
 tlt:∀ k,T k→k<W.heap.size
def RunP(s:Bs)(pre:List (Bs×Bool))(R:List OpR):Prop:=∀ rest,linesL s=pre++rest→parseT s=runL rest pre.length (opsOf R)
structure GS(w:World)(N g2 g3 g4 g5 g6 g7 b:Nat):Prop where
 e2:g2=w.heap.size
 e3:g3=w.heap.size+1
 e4:w.heap.size+2≤g4
 e5:g5=g4+1
 e6:g6=g4+2
 e7:g7=g4+3
 eN:N=g4+4
 eb:b<g4∧b≠g2∧b≠g3
 em:2<w.heap.size
theorem OpI.lies{N:Nat}{T:Terr}{U:Terr}{A B:World}{x:OpR}(h:OpI A x)(hT:opInT N T x)(hl:Lies U A B)(hU:∀ k,T k→U k):OpI B x:=
 ⟨h.1.blks fun b off e hlt=>hl.block b hlt (hU _ (hT.1 b off e).1),h.2.blks fun b off e hlt=>hl.block b hlt (hU _ (hT.2 b off e).1)⟩
theorem FS.stab{w:World}{N g2 g3 g4 g5 g6 g7 b:Nat}{pre:List (Bs×Bool)}{v:Value}{R:List OpR}{T:Terr}{A B:World}(hG:GS w N g2 g3 g4 g5 g6 g7 b)(h:FS w N g2 g3 g4 g5 g6 b pre v R T A)(hl:Lies (fun k=>T k∨(k<N∧¬k=g7)) A B):FS w N g2 g3 g4 g5 g6 b pre v R T B where
 b2:=hl.blk h.b2 (.inl h.tin.1)
 b3:=hl.blk h.b3 (.inl h.tin.2.1)
 b4:=hl.blk h.b4 (.inr (by have:=hG.e7;have:=hG.eN;omega))
 b5:=hl.blk h.b5 (.inl h.tin.2.2.1)
 b6:=hl.blk h.b6 (.inl h.tin.2.2.2)
 map:=h.map.of_block (hl.block _ h.map.lt (.inr (by have:=hG.e7;have:=hG.eN;have:=hG.eb;omega)))
 ml:=h.ml.same (hl.block _ h.ml.lt (.inr (by have:=hG.e7;have:=hG.eN;have:=hG.em;have:=hG.e4;omega)))
 own:=own_blkT h.own (fun k hk=>hl.block k (h.own.lt k hk).2 (.inl (h.ownT k hk)))
 ownT:=h.ownT
 ops:=fun x hx=>⟨(h.ops x hx).1.lies (h.ops x hx).2 hl (fun _ ht=>.inl ht),(h.ops x hx).2⟩
 len:=h.len
 sep:=h.sep
 bel:=⟨hl.os.trans h.bel.os,hl.tape.trans h.bel.tape,hl.output.trans h.bel.output,Nat.le_trans h.bel.size hl.size,fun k hk=>(hl.block k (Nat.lt_of_lt_of_le hk h.bel.size) (.inr (by have:=hG.e7;have:=hG.eN;have:=hG.e4;omega))).trans (h.bel.block k hk)⟩
 size:=Nat.le_trans h.size hl.size
 tin:=h.tin
 tsub:=h.tsub
 tlt:=fun k hk=>Nat.lt_of_lt_of_le (h.tlt k hk) hl.size
theorem FS.count{w:World}{N g2 g3 g4 g5 g6 g7 b:Nat}{pre:List (Bs×Bool)}{v:Value}{R:List OpR}{T:Terr}{U:World}(hG:GS w N g2 g3 g4 g5 g6 g7 b)(h:FS w N g2 g3 g4 g5 g6 b pre v R T U){z:Int}(x:Bs×Bool)(hz:z=(pre++[x]).length):
  FS w N g2 g3 g4 g5 g6 b (pre++[x]) v R T (U.setCell ⟨g6,0,none⟩ (.int .i64 z)) where
 b2:=h.b2.far (by have:=hG.e2;have:=hG.e4;have:=hG.e6;simp;omega) _
 b3:=h.b3.far (by have:=hG.e3;have:=hG.e4;have:=hG.e6;simp;omega) _
 b4:=h.b4.far (by have:=hG.e6;simp;omega) _
 b5:=h.b5.far (by have:=hG.e5;have:=hG.e6;simp;omega) _
 b6:=by rw[← hz];exact h.b6.set_ 0 _
 map:=h.map.of_block (Below.heap_setCell U ⟨g6,0,none⟩ _ b (by have:=hG.eb;have:=hG.e6;simp;omega))
 ml:=h.ml.same (Below.heap_setCell U ⟨g6,0,none⟩ _ _ (by have:=hG.em;have:=hG.e4;have:=hG.e6;simp;omega))
 own:=own_far h.own (by have:=hG.eN;have:=hG.e6;omega) 0 _
 ownT:=h.ownT
 ops:=fun y hy=>by
  have h1:=h.ops y hy
  have hne:∀ k,N≤k→(U.setCell ⟨g6,0,none⟩ (.int .i64 z)).heap[k]? = U.heap[k]?:=fun k hk=>Below.heap_setCell U ⟨g6,0,none⟩ _ k (by have:=hG.eN;have:=hG.e6;simp;omega)
  exact⟨⟨h1.1.1.blks fun q off e _=>hne q (h1.2.1 q off e).2,h1.1.2.blks fun q off e _=>hne q (h1.2.2 q off e).2⟩,h1.2⟩
 len:=by have:=h.len;simp;omega
 sep:=h.sep
 bel:=h.bel.setCell (p:=⟨g6,0,none⟩) (by have:=hG.e6;have:=hG.e4;simp;omega) _
 size:=by have:=h.size;simpa using this
 tin:=h.tin
 tsub:=h.tsub
 tlt:=fun k hk=>by have:=h.tlt k hk;simpa using this
theorem tOps:SlT Tryz.prog 38 71 4 64:=SlT.mk' Tryz.underlying38 (z:=.agg opZ) (by kernel_rfl) rfl (by decide)
theorem FS.push{w:World}{N g2 g3 g4 g5 g6 g7 b:Nat}{pre:List (Bs×Bool)}{v:Value}{R:List OpR}{T:Terr}{W6 W7:World}(hG:GS w N g2 g3 g4 g5 g6 g7 b)(h:FS w N g2 g3 g4 g5 g6 b pre v R T W6){x:OpR}{v':Value}{M:Nat}(hx:OpI W6 x)
    (hA:∀ q off,x.A=some ⟨q,off,none⟩→M≤q∧q<W6.heap.size∧v.ownBlock≠some q) (hB:∀ q off,x.B=some ⟨q,off,none⟩→M≤q∧q<W6.heap.size∧v.ownBlock≠some q)
    (hown:W7.ownsRow N 71 4 v' (R.length+1) (R.flatMap opC++opC x)) (hgr:W6.grownBy W7 v.ownBlock) (hblk:v'.ownBlock=v.ownBlock∨v'.ownBlock=some W6.heap.size) (hlen:R.length+1≤pre.length) (hM:N≤M∧M≤W6.heap.size):
    FS w N g2 g3 g4 g5 g6 b pre v' (R++[x]) (fun k=>T k∨(M≤k∧k<W7.heap.size)) (W7.setCell ⟨g5,0,none⟩ v'):=by
  have e2:=hG.e2;have e3:=hG.e3;have e4:=hG.e4;have e5:=hG.e5;have e6:=hG.e6;have eN:=hG.eN;have eb:=hG.eb;have em:=hG.em
  have hne:∀ k,k<N→some k≠v.ownBlock:=fun k hk e=>by have:=(h.own.lt k e.symm).1;omega
  have hblkK:∀ k,k<W6.heap.size→some k≠v.ownBlock→k≠g5→(W7.setCell ⟨g5,0,none⟩ v').heap[k]? = W6.heap[k]?:=fun k hk h1 h2=>(Below.heap_setCell W7 ⟨g5,0,none⟩ v' k h2).trans (hgr.block k hk h1)
  have hs:=hgr.size
  have hN:=h.size
  refine { b2 := (hblkK g2 h.b2.lt (hne _ (by omega)) (by omega)).trans h.b2, b3 := (hblkK g3 h.b3.lt (hne _ (by omega)) (by omega)).trans h.b3, b4 := (hblkK g4 h.b4.lt (hne _ (by omega)) (by omega)).trans h.b4
           b5 := Blk.set_ (show Blk W7 g5 _ #[v] from (hgr.block g5 h.b5.lt (hne _ (by omega))).trans h.b5) 0 v', b6 := (hblkK g6 h.b6.lt (hne _ (by omega)) (by omega)).trans h.b6
           map := h.map.of_block (hblkK b h.map.lt (hne _ (by omega)) (by omega)), ml := h.ml.same (hblkK _ h.ml.lt (hne _ (by omega)) (by omega))
           own := ?_, ownT := ?_, ops := ?_, len := by simpa using hlen, sep := ?_, bel := ?_, size := by simp; omega, tin := ⟨.inl h.tin.1, .inl h.tin.2.1, .inl h.tin.2.2.1, .inl h.tin.2.2.2⟩
           tsub:=fun k hk=>hk.elim (h.tsub k) (fun h2=>.inr (.inr (.inr (.inr (by omega))))),tlt:=fun k hk=>hk.elim (fun h1=>by have:=h.tlt k h1;simp;omega) (fun h2=>by simp;exact h2.2) }
  · have:=own_far hown (g:=g5) (by omega) 0 v'
    rw[List.length_append,List.flatMap_append]
    simpa using this
  · intro k hk
    rcases hblk with e|e
    · exact .inl (h.ownT k (by rw[← e];exact hk))
    · rw[e] at hk
      injection hk with hk
      have:=(hown.lt k (by rw[e,hk])).2
      exact .inr ⟨by omega,this⟩
  · intro y hy
    rw[List.mem_append,List.mem_singleton] at hy
    rcases hy with hy|rfl
    · have h1:=h.ops y hy
      have h2:=h.sep y hy
      refine⟨⟨h1.1.1.blks fun q off e hq=>?_,h1.1.2.blks fun q off e hq=>?_⟩,fun q off e=>⟨.inl (h1.2.1 q off e).1,(h1.2.1 q off e).2⟩,fun q off e=>⟨.inl (h1.2.2 q off e).1,(h1.2.2 q off e).2⟩⟩
      · exact hblkK q hq (fun e3=>h2.1 q off e e3.symm) (by have:=(h1.2.1 q off e).2;omega)
      · exact hblkK q hq (fun e3=>h2.2 q off e e3.symm) (by have:=(h1.2.2 q off e).2;omega)
    · refine⟨⟨hx.1.blks fun q off e hq=>?_,hx.2.blks fun q off e hq=>?_⟩,fun q off e=>?_,fun q off e=>?_⟩
      · have:=hA q off e
        exact hblkK q hq (fun e3=>this.2.2 e3.symm) (by omega)
      · have:=hB q off e
        exact hblkK q hq (fun e3=>this.2.2 e3.symm) (by omega)
      · have:=hA q off e
        exact⟨.inr (by omega),by omega⟩
      · have:=hB q off e
        exact⟨.inr (by omega),by omega⟩
  · intro y hy
    have key:∀ q,q<W6.heap.size→v.ownBlock≠some q→v'.ownBlock≠some q:=fun q hq h1 h2=>by
      rcases hblk with e|e
      · exact h1 (by rw[← e];exact h2)
      · rw[e] at h2
        injection h2 with h2
        omega
    rw[List.mem_append,List.mem_singleton] at hy
    rcases hy with hy|rfl
    · have h1:=(h.ops y hy).2
      have h2:=h.sep y hy
      exact⟨fun q off e=>key q (h.tlt q (h1.1 q off e).1) (h2.1 q off e),fun q off e=>key q (h.tlt q (h1.2 q off e).1) (h2.2 q off e)⟩
    · exact⟨fun q off e=>key q (hA q off e).2.1 (hA q off e).2.2,fun q off e=>key q (hB q off e).2.1 (hB q off e).2.2⟩
  · exact((h.bel.grown hgr h.bel.size (fun k hk=>by have:=(h.own.lt k hk).1;omega))).setCell (p:=⟨g5,0,none⟩) (by simp;omega) _
structure FXP(w:World)(N g2 g3 g7:Nat)(s:Bs)(T:Terr)(W:World):Prop where
 b2:Blk W g2 38 #[.slice none 0 0]
 b3:Blk W g3 42 #[errV (parseT s).1]
 bad:1≤(parseT s).1
 bel:Below w.heap.size w W
 tin:T g2∧T g3
theorem FXP.stab{w:World}{N g2 g3 g4 g5 g6 g7 b:Nat}{s:Bs}{T:Terr}{A B:World}(hG:GS w N g2 g3 g4 g5 g6 g7 b)(h:FXP w N g2 g3 g7 s T A)(hl:Lies (fun k=>T k∨(k<N∧¬k=g7)) A B):FXP w N g2 g3 g7 s T B where
 b2:=hl.blk h.b2 (.inl h.tin.1)
 b3:=hl.blk h.b3 (.inl h.tin.2)
 bad:=h.bad
 bel:=⟨hl.os.trans h.bel.os,hl.tape.trans h.bel.tape,hl.output.trans h.bel.output,Nat.le_trans h.bel.size hl.size,fun k hk=>(hl.block k (Nat.lt_of_lt_of_le hk h.bel.size) (.inr (by have:=hG.e7;have:=hG.eN;have:=hG.e4;omega))).trans (h.bel.block k hk)⟩
 tin:=h.tin
theorem Parse_any(s:Bs)(w:World)(hml:ML w)(hs:s.length≤10000000):
  Calls Tryz.prog 33 #[.string (SBy s)] w fun e w'=>Below w.heap.size w w'∧∃ v ev,e = .returned (.tuple #[v,ev])∧(((parseT s).1=0∧ev = .nilIface∧∃ R:List OpR,opsOf R=(parseT s).2∧w'.ownsRow w.heap.size 71 4 v R.length (R.flatMap opC)∧∀ x∈R,OpI w' x)∨(1≤(parseT s).1∧ev=errV (parseT s).1∧v = .slice none 0 0)):=by
 have HML:=Lib.hid hml
 have hmlt:=hml.lt
 clear hml
 refine calls_marks Tryz.func33 rfl ?_
 simp only[Tryz.ntmps33,List.size_toArray,List.length_cons,List.length_nil,Nat.reduceAdd,Nat.reduceSub,Array.replicate_succ,Array.replicate_zero,List.push_toArray,List.append_toArray,List.nil_append,List.cons_append]
 refine wpIn_wide.2 ?_
 go_wp2_with (first
  | (go_at_call 61;refine(kinds_any _).mono ?_;rintro e w1 ⟨b,rfl,hm,hb1⟩;have HM:=Lib.hid hm;have HB1:=Lib.hid hb1;clear hm hb1)
  | (go_at_call 62;refine(lines_any s _).mono ?_;rintro e w2 ⟨rfl,rfl⟩))
 obtain⟨W,hW⟩:∃ W,W=((((w1.alloc (.cells #[.map (some b)] 131)).alloc (.cells #[.slice none 0 0] 38)).alloc (.cells #[.int .i64 0] 3)).alloc (.cells #[.string (SBy s)] 9)):=⟨_,rfl⟩
 rw[← hW]
 obtain⟨g4,hg4⟩:∃ g,g=w1.heap.size:=⟨_,rfl⟩
 rw[← hg4]
 have hs1:=HB1.size
 simp only[World.size_alloc] at hs1
 have hB2:Blk w1 w.heap.size 38 #[.slice none 0 0]:=((Blk.new w _ _).alloc _).keep HB1.out
 have hB3:Blk w1 (w.heap.size+1) 42 #[.nilIface]:=(Blk.newAt (w.alloc (.cells #[.slice none 0 0] 38)) _ _ (w.heap.size+1) (by simp)).keep HB1.out
 have hbw:Below w.heap.size w w1:=bstep (bstep (bel1S _ _) (bel1S _ _)) HB1.out
 have hbW:Below w1.heap.size w1 W:=by rw[hW];exact bstep (bstep (bstep (bel1S _ _) (bel1S _ _)) (bel1S _ _)) (bel1S _ _)
 have hG:GS w (g4+4) w.heap.size (w.heap.size+1) g4 (g4+1) (g4+2) (g4+3) b:=⟨rfl,rfl,by omega,rfl,rfl,rfl,rfl,⟨by rw[hg4];exact HM.lt,HM.ne hB2,HM.ne hB3⟩,hmlt⟩
 have hB4:Blk W g4 131 #[.map (some b)]:=by rw[hW,hg4];exact(((Blk.new _ _ _).alloc _).alloc _).alloc _
 have hB5:Blk W (g4+1) 38 #[.slice none 0 0]:=by rw[hW,hg4];exact((Blk.newAt _ _ _ _ (by simp)).alloc _).alloc _
 have hB6:Blk W (g4+2) 3 #[.int .i64 0]:=by rw[hW,hg4];exact(Blk.newAt _ _ _ _ (by simp)).alloc _
 have hB7:Blk W (g4+3) 9 #[.string (SBy s)]:=by rw[hW,hg4];exact Blk.newAt _ _ _ _ (by simp)
 have hWs:W.heap.size=g4+4:=by rw[hW,hg4];simp
 have hML:ML W:=HML.below (bstep hbw hbW)
 have hF0:FS w (g4+4) w.heap.size (w.heap.size+1) g4 (g4+1) (g4+2) b [] (.slice none 0 0) [] (fun k=>k=w.heap.size∨k=w.heap.size+1∨k=g4+1∨k=g4+2) W:={
  b2:=hB2.keep hbW,b3:=hB3.keep hbW,b4:=hB4,b5:=hB5,b6:=hB6
  map:=HM.keep hbW
  ml:=hML
  own:=World.ownsRow_nil _ _ _ _
  ownT:=fun k h=>by cases h
  ops:=fun x hx=>by cases hx
  len:=Nat.le_refl _
  sep:=fun x hx=>by cases hx
  bel:=bstep hbw hbW
  size:=by omega
  tin:=⟨.inl rfl,.inr (.inl rfl),.inr (.inr (.inl rfl)),.inr (.inr (.inr rfl))⟩
  tsub:=fun k hk=>by rcases hk with h|h|h|h <;> simp[h]
  tlt:=fun k hk=>by rcases hk with h|h|h|h <;> omega }
 have HF0:=Lib.hid hF0
 have HG:=Lib.hid hG
 have hseq:=lines_seq s (g4+3) W hB7 hML (by omega) (by omega)
 have HSEQ:=Lib.hid hseq
 have hlN:(linesL s).length≤100000000:=by
  have:=linesL_len s
  omega
 clear hW hB2 hB3 hbw hbW hB4 hB5 hB6 hB7 hML hF0 hG hseq hs1 hg4 HM HB1
 refine(wpIn_wide (n:=9)).1 ?_
 refine wpIn_rangeFunc_Z (w0:=W) (all:=linesL s) (encs:=encL) (Z:=fun k=>k=g4+3) (X:=XL (g4+3)) rfl (fun h=>by cases h) (gf:=92) (lb:=#[.pointer (some ⟨g4+3,0,none⟩)]) rfl trivial (enters_of Tryz.func92 (by kernel_rfl) rfl)
  (SeqZ.any HSEQ.out) (Below.refl _ _) (fun _=>rfl) (fun k h=>by omega)
  (fun pre T U=>∃ v R,FS w (g4+4) w.heap.size (w.heap.size+1) g4 (g4+1) (g4+2) b pre v R T U∧RunP s pre R)
  (fun c pre T U=>c = .ret∧FXP w (g4+4) w.heap.size (w.heap.size+1) (g4+3) s T U)
  (fun pre x a' T U=>∃ v R,FS w (g4+4) w.heap.size (w.heap.size+1) g4 (g4+1) (g4+2) b pre v R T U∧RunP s pre R∧a'={ tmps:=#[.string (SBy s),undef,.pointer (some ⟨w.heap.size,0,none⟩),.pointer (some ⟨w.heap.size+1,0,none⟩),.pointer (some ⟨g4,0,none⟩),.pointer (some ⟨g4+1,0,none⟩),.pointer (some ⟨g4+1+1,0,none⟩),.string (SBy x.1),.bool x.2,undef,undef,.map (some b),.string (SBy s),.func (.func 92) #[] #[.pointer (some ⟨g4+1+1+1,0,none⟩)],.string (SBy x.1),.bool x.2,undef,undef,undef,undef,undef,undef,undef,undef,undef,undef,undef,undef,undef,undef,undef,undef,undef,undef,undef,undef,undef,undef,undef,undef,undef,undef,undef,undef],defers:=[] })
  (fun k=>k=w.heap.size∨k=w.heap.size+1∨k=g4+1∨k=g4+2)
  (fun st T A' B h hli=>by
   obtain⟨v,R,h,hr⟩:=h
   exact⟨v,R,h.stab HG.out (by rw[hWs] at hli;exact hli),hr⟩)
  (fun c st T A' B h hli=>⟨h.1,h.2.stab HG.out (by rw[hWs] at hli;exact hli)⟩)
  (fun pre x a' _ T A' B h hli=>by
   obtain⟨v,R,h,hr,ha⟩:=h
   exact⟨v,R,h.stab HG.out (by rw[hWs] at hli;exact hli),hr,ha⟩)
  (fun st T A' h k hk=>by
   obtain⟨v,R,h,_⟩:=h
   exact h.tlt k hk)
  (fun k hk hx=>by
   have e4:=HG.e4
   rcases hx with h|h
   ·rcases hk with h'|h'|h'|h' <;> omega
   ·have:=HG.em
    rcases hk with h'|h'|h'|h' <;> omega)
  ⟨_,_,HF0.out,fun rest e=>by rw[parseT_lines,e];rfl⟩
  ?assign ?body ?done ?stop
 case assign=>
  rintro ln pre x T U hlD hpre hsz ⟨v,R,hI,hrp⟩
  have HI:=Lib.hid hI
  have HRP:=Lib.hid hrp
  clear hI hpre hrp
  dsimp only [encL]
  gi_wp2_with fail
  exact⟨T,Turn.refl _ _,v,R,HI.out,HRP.out,by trivial⟩
 case body=>
  rintro ln pre x a' T U hlD hpre hsz ⟨v,R,hI,hrp,rfl⟩
  obtain⟨line,ended⟩:=x
  dsimp only
  have hpl:=List.IsPrefix.length_le hpre
  simp only[List.length_append,List.length_singleton] at hpl
  obtain⟨rest,hrest⟩:=hpre
  have hrun0:=hrp ((line,ended) :: rest) (by rw[← hrest];simp)
  have HRUN0:=Lib.hid hrun0
  have HREST:=Lib.hid hrest
  have hll:line.length≤s.length:=line_le (by rw[← hrest];simp:(line,ended)∈linesL s)
  have c6:U.cell? ⟨g4+1+1,0,none⟩=some (.int .i64 pre.length):=by have:=hI.b6.cell 0;simpa using this
  have f6:U.frozen? ⟨g4+1+1,0,none⟩=false:=hI.b6.frozen 0
  obtain⟨z,hz⟩:∃ z,z=(pre.length:Int):=⟨_,rfl⟩
  rw[← hz] at c6
  have hz0:0≤z:=by omega
  have hb1:z+1≤9223372036854775807:=by omega
  have y1:IntKind.i64.wrap (z+1)=z+1:=IntWalk.i64_in _ (by omega)
  obtain⟨W1,hW1⟩:∃ W1,W1=U.setCell ⟨g4+1+1,0,none⟩ (.int .i64 (z+1)):=⟨_,rfl⟩
  have hTu1:Turn T U T W1:=by rw[hW1];exact(Turn.refl T U).setCell hI.tin.2.2.2 0 _
  have HTU1:=Lib.hid hTu1
  have HI:=Lib.hid hI
  have HZ1:Hid (z+1=((pre++[(line,ended)]).length:Nat)):=Lib.hid (by rw[hz];simp)
  have HRP:=Lib.hid hrp
  clear hI hrun0 hrest hTu1 hz hrp
  cases ended with
  | false=>
   have HBAD:Hid (parseT s=((pre++[(line,false)]).length,[])):=Lib.hid (by rw[HRUN0.out];simp[runL])
   have HC:Hid (Blk W1 w.heap.size 38 #[.slice none 0 0]∧Blk W1 (w.heap.size+1) 42 #[.nilIface]∧Below w.heap.size w W1):=Lib.hid (by
    have e4:=HG.e4
    rw[hW1]
    exact⟨HI.b2.far (by simp;omega) _,HI.b3.far (by simp;omega) _,HI.bel.setCell (p:=⟨g4+1+1,0,none⟩) (by simp;omega) _⟩)
   gi_wp2_with fail
   rw[← hW1]
   clear hW1 c6 f6
   refine⟨trivial,(inR ln (fault_new (z+1) W1)).mono ?_⟩
   rintro e WA ⟨rfl,hWA⟩
   rw[hWA]
   clear hWA
   have hk2:=HC.out.1.cell 0
   have hf2:=HC.out.1.frozen 0
   have hk3':=(HC.out.2.1.far (p:=⟨w.heap.size,0,none⟩) (by simp) (.slice none 0 0)).cell 0
   have hf3':=(HC.out.2.1.far (p:=⟨w.heap.size,0,none⟩) (by simp) (.slice none 0 0)).frozen 0
   simp only[List.getElem?_toArray,List.getElem?_cons_zero] at hk2 hk3'
   gi_wp2_with fail
   refine⟨T,(HTU1.setCell HI.tin.1 0 _).setCell HI.tin.2.1 0 _,rfl,(HC.out.1.set_ 0 _).far (by simp) _,?_,by rw[HBAD.out];simp,(HC.out.2.2.setCell (p:=⟨w.heap.size,0,none⟩) (Nat.le_refl _) _).setCell (p:=⟨w.heap.size+1,0,none⟩) (by simp) _,HI.tin.1,HI.tin.2.1⟩
   have h3:=(HC.out.2.1.far (p:=⟨w.heap.size,0,none⟩) (by simp) (.slice none 0 0)).set_ 0 (errZ (z+1))
   have he:errV (parseT s).1=errZ (z+1):=by rw[HBAD.out,HZ1.out];rfl
   rw[he]
   exact h3
  | true=>
   have HF1:Hid (FS w (g4+4) w.heap.size (w.heap.size+1) g4 (g4+1) (g4+2) b (pre++[(line,true)]) v R T W1):=Lib.hid (by rw[hW1];exact HI.count HG.out (line,true) HZ1.out)
   have HSKIP:Hid (skipL line=true→∃ v R,FS w (g4+4) w.heap.size (w.heap.size+1) g4 (g4+1) (g4+2) b (pre++[(line,true)]) v R T W1∧RunP s (pre++[(line,true)]) R):=Lib.hid (fun hsk=>by
    refine⟨v,R,HF1.out,fun rest' e=>?_⟩
    have h:=HRP.out ((line,true) :: rest') (by rw[e];simp)
    rw[h,runL_skip _ _ _ hsk,List.length_append];rfl)
   have hix0:=idx_at line
   have hisE:(SBy line).toList.isEmpty=line.isEmpty:=by rw[ByteArray.toList_eq,SB_list]
   rcases(show line=[]∨∃ c tl,line=c :: tl by cases line with|nil=>exact .inl rfl|cons c tl=>exact .inr ⟨c,tl,rfl⟩) with hlc|⟨c,tl,hlc⟩
   ·subst hlc
    have HFIN:=Lib.hid (HSKIP.out rfl)
    obtain⟨S,hS⟩:∃ S,S=SBy ([]:Bs):=⟨_,rfl⟩
    rw[← hS] at hisE ⊢
    have hisE:S.toList.isEmpty=true:=hisE
    clear hS hix0 HSKIP
    gi_wp2_with fail
    rw[← hW1]
    exact⟨T,HTU1.out,HFIN.out⟩
   ·have hi0:∀ W,(Instr.index 9 (.string (SBy line)) (.int .i64 0)).run Tryz.prog W = .ok (.int .u8 (c.toNat:Int)) W:=fun W=>by
     have h:=hix0 0 (by rw[hlc];simp) W
     have e0:line[0]'(by rw[hlc];simp)=c:=by simp[hlc]
     rw[e0] at h
     exact h
    have hisE:(SBy line).toList.isEmpty=false:=by rw[hisE,hlc];rfl
    have hskd:skipL line=((c.toNat:Int) == 35):=by
     rw[hlc]
     unfold skipL
     rw[Bool.eq_iff_iff]
     simp only[List.isEmpty_cons,Bool.false_or,List.head?_cons,beq_iff_eq,Option.some.injEq]
     constructor
     ·rintro rfl;rfl
     ·intro h;exact UInt8.toNat_inj.1 (by have:(35:UInt8).toNat=35:=rfl;omega)
    clear hix0 hlc
    obtain⟨y,hy⟩:∃ y,y=(c.toNat:Int):=⟨_,rfl⟩
    rw[← hy] at hi0 hskd
    clear hy
    rcases Bool.eq_false_or_eq_true (y == 35) with t35|t35
    ·rw[t35] at hskd
     have HFIN:=Lib.hid (HSKIP.out hskd)
     obtain⟨S,hS⟩:∃ S,S=SBy line:=⟨_,rfl⟩
     rw[← hS] at hisE hi0 ⊢
     clear hS hskd HSKIP
     gi_wp2_with fail
     rw[← hW1]
     exact⟨T,HTU1.out,HFIN.out⟩
    ·rw[t35] at hskd
     have HSK:=Lib.hid hskd
     have c4:(U.setCell ⟨g4+1+1,0,none⟩ (.int .i64 (z+1))).cell? ⟨g4,0,none⟩=some (.map (some b)):=by
      have:=HF1.b4.cell 0
      rw[hW1] at this
      simpa using this
     obtain⟨S,hS⟩:∃ S,S=SBy line:=⟨_,rfl⟩
     rw[← hS] at hisE hi0 ⊢
     have HSe:=Lib.hid hS
     clear hS hskd HSKIP
     gi_wp2_with fail
     rw[← hW1]
     clear c6 f6 c4 hisE hi0
     have HPL:=parseLine_any line b W1 HF1.ml (by omega) HF1.map
     rw[← HSe.out] at HPL
     refine⟨trivial,(inR ln HPL).mono ?_⟩
     clear HPL
     rintro e W3 ⟨v3,rfl,hv3,hb3⟩
     obtain⟨xA,xca,xB,xcb,rfl,s2,s3,n2,n3⟩:=hv3
     obtain⟨o',ho'⟩:∃ o',o'=(parseL line).getD op0:=⟨_,rfl⟩
     rw[← ho'] at s2 s3
     rw[← ho']
     obtain⟨A0,cap0,rfl,_,_⟩:=own_sn HF1.own
     have HF3:=Lib.hid (HF1.stab HG.out (Lies.of_below hb3))
     have HX:=Lib.hid (And.intro s2 s3)
     have HN:=Lib.hid (And.intro n2 n3)
     have HTU3:=Lib.hid (HTU1.below hb3)
     have HS3:=Lib.hid hb3.size
     have hzr:∀ w,(zeroValue 71).run Tryz.prog w = .ok (.agg opZ) w:=fun w=>by kernel_rfl
     have HZR:=Lib.hid hzr
     have HO:=Lib.hid ho'
     clear s2 s3 n2 n3 hb3 hzr ho' hW1
     cases hpl2:parseL line with
     | none=>
      have HBAD:Hid (parseT s=((pre++[(line,true)]).length,[])):=Lib.hid (by
       rw[HRUN0.out,runL_none _ _ _ HSK.out hpl2]
       simp)
      clear hpl2
      gi_wp2_with (first
       | (refine iAl 71 _ rfl (round_fn _) rfl HZR.out ?_)
       | (refine iStNew (cells:=#[.int .i64 o'.kind,.int .i64 o'.n,.slice xA o'.data.length xca,.slice xB o'.cuts.length xcb]) 71 (.tmp 9) (.tmp 33) rfl (round_fn _) rfl (by rfl) (by rfl) (by kernel_rfl) rfl (opRow_one _ _ _ _ _ _ _ _) ?_;intro W5 hW5;have hb5:Below W3.heap.size W3 W5:=(by rw[hW5];exact bel1S _ _);have HF5:=Lib.hid (HF3.stab HG.out (Lies.of_below hb5));have HTU5:=Lib.hid (HTU3.below hb5);have c6:W5.cell? ⟨g4+1+1,0,none⟩=some (.int .i64 (z+1)):=(by have h:=HF5.b6.cell 0;rw[← HZ1.out] at h;simpa using h);clear hW5 hb5))
      refine⟨trivial,(inR ln (fault_new (z+1) W5)).mono ?_⟩
      rintro e WA ⟨rfl,hWA⟩
      rw[hWA]
      clear hWA
      have hk2:=HF5.b2.cell 0
      have hf2:=HF5.b2.frozen 0
      have hk3':=(HF5.b3.far (p:=⟨w.heap.size,0,none⟩) (by simp) (.slice none 0 0)).cell 0
      have hf3':=(HF5.b3.far (p:=⟨w.heap.size,0,none⟩) (by simp) (.slice none 0 0)).frozen 0
      simp only[List.getElem?_toArray,List.getElem?_cons_zero] at hk2 hk3'
      gi_wp2_with fail
      refine⟨T,(HTU5.setCell HI.tin.1 0 _).setCell HI.tin.2.1 0 _,rfl,(HF5.b2.set_ 0 _).far (by simp) _,?_,by rw[HBAD.out];simp,(HF5.bel.setCell (p:=⟨w.heap.size,0,none⟩) (Nat.le_refl _) _).setCell (p:=⟨w.heap.size+1,0,none⟩) (by simp) _,HI.tin.1,HI.tin.2.1⟩
      have h3:=(HF5.b3.far (p:=⟨w.heap.size,0,none⟩) (by simp) (.slice none 0 0)).set_ 0 (errZ (z+1))
      have he:errV (parseT s).1=errZ (z+1):=by rw[HBAD.out,HZ1.out];rfl
      rw[he]
      exact h3
     | some o=>
      have ho:o'=o:=by rw[HO.out,hpl2];rfl
      have HRUNX:Hid (∀ rest',linesL s=(pre++[(line,true)])++rest'→parseT s=runL rest' (pre++[(line,true)]).length (opsOf R++[o'])):=Lib.hid (fun rest' e=>by
       have h:=HRP.out ((line,true) :: rest') (by rw[e];simp)
       rw[h,runL_some _ _ _ HSK.out hpl2,List.length_append,ho];rfl)
      clear hpl2 ho
      have hN5:=HF1.size
      have hRl:R.length≤100000000:=by have:=HI.len;omega
      gi_wp2_with (first
       | (refine iAl 71 _ rfl (round_fn _) rfl HZR.out ?_)
       | (refine iStNew (cells:=#[.int .i64 o'.kind,.int .i64 o'.n,.slice xA o'.data.length xca,.slice xB o'.cuts.length xcb]) 71 (.tmp 9) (.tmp 33) rfl (round_fn _) rfl (by rfl) (by rfl) (by kernel_rfl) rfl (opRow_one _ _ _ _ _ _ _ _) ?_;intro W5 hW5;have hb5:Below W3.heap.size W3 W5:=(by rw[hW5];exact bel1S _ _);have HF5:=Lib.hid (HF3.stab HG.out (Lies.of_below hb5));have HTU5:=Lib.hid (HTU3.below hb5);have HB5:=Lib.hid hb5;have c5:W5.cell? ⟨g4+1,0,none⟩=some (.slice A0 R.length cap0):=(by have h:=HF5.b5.cell 0;simpa using h);have HR9:Hid (W5.rangeAt W3.heap.size 0 [.int .i64 o'.kind,.int .i64 o'.n,.slice xA o'.data.length xca,.slice xB o'.cuts.length xcb]):=Lib.hid (by rw[hW5];exact(Blk.new _ _ _).range);have hs5:=HF5.size;clear hW5 hb5)
       | (refine iLd 71 (.tmp 9) rfl (round_fn _) rfl (by rfl) HR9.out Tryz.underlying71 rfl (by kernel_rfl) ?_)
       | (refine iApp tOps (.tmp 39) (.tmp 41) (round_fn _) rfl rfl (by rfl) (World.ownsRow.alloc HF5.own _) (by rfl) (Sn.new W5 (opC (OpR.mk o' xA xca xB xcb)).toArray 71 4 1 rfl) (opC_one (OpR.mk o' xA xca xB xcb)) (by unfold maxLen;omega) (by omega) (by simp;omega) ?_;intro v' W7 hown hgrow hblk;obtain⟨A7,cap7,rfl,_⟩:=own_sn hown;rw[List.toList_toArray] at hown;have hb6:=bel1S W5 (.cells (opC (OpR.mk o' xA xca xB xcb)).toArray 71);have HF6:=Lib.hid (HF5.stab HG.out (Lies.of_below hb6));have hg5:Blk W7 (g4+1) 38 #[.slice A0 R.length cap0]:=((hgrow.block (g4+1) HF6.b5.lt (fun e=>by have:=(HF6.own.lt _ e.symm).1;omega)).trans HF6.b5);have c7:=hg5.cell 0;have f7:=hg5.frozen 0;simp only[List.getElem?_toArray,List.getElem?_cons_zero] at c7;have HOW:=Lib.hid hown;have HGR:=Lib.hid hgrow;have HBK:=Lib.hid hblk;have HTU6:=Lib.hid (HTU5.below hb6);clear hown hgrow hblk hb6 hg5))
      have hX6:OpI (W5.alloc (.cells (opC (OpR.mk o' xA xca xB xcb)).toArray 71)) (OpR.mk o' xA xca xB xcb):=by
       have h1:=HX.out
       exact⟨(h1.1.below HB5.out).below (bel1S _ _),(h1.2.below HB5.out).below (bel1S _ _)⟩
      have hsz5:=HB5.size
      have hov:∀ q,W1.heap.size≤q→(Value.slice A0 R.length cap0).ownBlock≠some q:=fun q hq e=>by
       have:=(HF1.own.lt q e).2
       omega
      have hP:=HF6.push HG.out (M:=W1.heap.size) hX6 (fun q off e=>by
        have h1:=HN.out.1 q off e
        exact⟨h1.1,by simp;omega,hov q h1.1⟩) (fun q off e=>by
        have h1:=HN.out.2 q off e
        exact⟨h1.1,by simp;omega,hov q h1.1⟩) HOW.out HGR.out HBK.out (by have:=HI.len;simp;omega) ⟨hN5,by have:=HS3.out;simp;omega⟩
      refine⟨fun k=>T k∨(W1.heap.size≤k∧k<W7.heap.size),((HTU6.grown HGR.out (fun k e=>HF6.ownT k e)).setCell HF6.tin.2.2.1 0 _).grow (fun k hk=>hk.imp id (fun h=>by have:=HTU1.size;omega)),_,R++[OpR.mk o' xA xca xB xcb],hP,fun rest' e=>?_⟩
      have h:=HRUNX.out rest' e
      rw[h]
      unfold opsOf
      rw[List.map_append];rfl
 case done=>
  rintro D T U hD ⟨v,R,h,hrp⟩ hnD hKd
  obtain⟨A,cap,rfl,hsn,_⟩:=own_sn h.own
  have c5:=h.b5.cell 0
  have c2:=h.b2.cell 0
  have f2:=h.b2.frozen 0
  simp only[List.getElem?_toArray,List.getElem?_cons_zero] at c5 c2
  have hB3:=h.b3.far (p:=⟨w.heap.size,0,none⟩) (by simp) (.slice A R.length cap)
  have c3:=hB3.cell 0
  have f3:=hB3.frozen 0
  simp only[List.getElem?_toArray,List.getElem?_cons_zero] at c3
  have e4:=HG.e4
  obtain⟨U2,hU2⟩:∃ U2,U2=(U.setCell ⟨w.heap.size,0,none⟩ (.slice A R.length cap)).setCell ⟨w.heap.size+1,0,none⟩ .nilIface:=⟨_,rfl⟩
  have hoU:∀ k,k≠w.heap.size→k≠w.heap.size+1→U2.heap[k]? = U.heap[k]?:=fun k h1 h2=>by
   rw[hU2]
   exact(Below.heap_setCell _ ⟨w.heap.size+1,0,none⟩ _ k h2).trans (Below.heap_setCell _ ⟨w.heap.size,0,none⟩ _ k h1)
  have hKd2:U2.heap[D]? = some (.deferred (some [])):=(hoU D (by omega) (by omega)).trans hKd
  have hrun:=run_takeDeferred (P:=Tryz.prog) hKd2
  have hK2:Blk (U2.putObj D (.deferred none)) w.heap.size 38 #[.slice A R.length cap]:=(World.putObj_heap_other (by omega)).trans (by rw[hU2];exact(h.b2.set_ 0 _).far (by simp) _)
  have hK3:Blk (U2.putObj D (.deferred none)) (w.heap.size+1) 42 #[.nilIface]:=(World.putObj_heap_other (by omega)).trans (by rw[hU2];exact hB3.set_ 0 _)
  have r2:=hK2.cell 0
  have r3:=hK3.cell 0
  simp only[List.getElem?_toArray,List.getElem?_cons_zero] at r2 r3
  have hN:=HG.eN
  have hT:∀ k,T k→k≠w.heap.size→k≠w.heap.size+1→(U2.putObj D (.deferred none)).heap[k]? = U.heap[k]?:=fun k ht h1 h2=>(World.putObj_heap_other (fun e=>hnD (by rw[← e];exact ht))).trans (hoU k h1 h2)
  have hown2:(U2.putObj D (.deferred none)).ownsRow w.heap.size 71 4 (.slice A R.length cap) R.length (R.flatMap opC):=
   own_base (own_blkT h.own (fun k hk=>by have:=(h.own.lt k hk).1;exact hT k (h.ownT k hk) (by omega) (by omega))) (by omega)
  have hops:∀ x∈R,OpI (U2.putObj D (.deferred none)) x:=fun x hx=>by
   have h1:=h.ops x hx
   refine⟨h1.1.1.blks fun b off e _=>?_,h1.1.2.blks fun b off e _=>?_⟩
   ·have:=h1.2.1 b off e
    exact hT b this.1 (by omega) (by omega)
   ·have:=h1.2.2 b off e
    exact hT b this.1 (by omega) (by omega)
  have hbl:Below w.heap.size w (U2.putObj D (.deferred none)):=by
   have h5:=h.bel
   refine⟨by rw[hU2];exact h5.os,by rw[hU2];exact h5.tape,by rw[hU2];exact h5.output,by have:=h5.size;rw[hU2];simpa using this,fun k hk=>(World.putObj_heap_other (by omega)).trans ((hoU k (by omega) (by omega)).trans (h5.block k hk))⟩
  have hpar:parseT s=(0,opsOf R):=hrp [] (by simp)
  have HBL:=Lib.hid hbl
  have HRUN:=Lib.hid hrun
  have HPAR:=Lib.hid hpar
  have HOWN:=Lib.hid hown2
  have HOPS:=Lib.hid hops
  have HU2:=Lib.hid hU2
  clear h hK2 hK3 hbl hKd hKd2 hrun hoU hT hown2 hops hpar hB3 hsn hU2
  gi_wp2_with fail
  go_wp2_with fail
  rw[← HU2.out]
  refine⟨by simp,.inl ⟨_,_,rfl,HRUN.out,?_⟩⟩
  refine⟨.tuple #[.slice A R.length cap,.nilIface],by simp[results,Tryz.results33,go_sem,r2,r3],HBL.out,_,_,rfl,.inl ⟨by rw[HPAR.out],rfl,R,by rw[HPAR.out],HOWN.out,HOPS.out⟩⟩
 case stop=>
  rintro D c pre T U hD hpre ⟨rfl,h⟩ hnD hKd
  have e4:=HG.e4
  have hrun:=run_takeDeferred (P:=Tryz.prog) hKd
  have hK2:Blk (U.putObj D (.deferred none)) w.heap.size 38 #[.slice none 0 0]:=(World.putObj_heap_other (by omega)).trans h.b2
  have hK3:Blk (U.putObj D (.deferred none)) (w.heap.size+1) 42 #[errV (parseT s).1]:=(World.putObj_heap_other (by omega)).trans h.b3
  have r2:=hK2.cell 0
  have r3:=hK3.cell 0
  simp only[List.getElem?_toArray,List.getElem?_cons_zero] at r2 r3
  have hbl:Below w.heap.size w (U.putObj D (.deferred none)):=by
   have h5:=h.bel
   exact⟨h5.os,h5.tape,h5.output,by simpa using h5.size,fun k hk=>(World.putObj_heap_other (by omega)).trans (h5.block k hk)⟩
  have HBL:=Lib.hid hbl
  have HRUN:=Lib.hid hrun
  have HBAD:=Lib.hid h.bad
  clear h hK2 hK3 hbl hKd hrun hpre
  gi_wp2_with fail
  refine⟨by simp,.inl ⟨_,_,rfl,HRUN.out,?_⟩⟩
  refine⟨.tuple #[.slice none 0 0,errV (parseT s).1],by simp[results,Tryz.results33,go_sem,r2,r3],HBL.out,_,_,rfl,.inr ⟨HBAD.out,rfl,rfl⟩⟩
end Go.Proofs.YtiaigidbcljblaaGreatDoor
