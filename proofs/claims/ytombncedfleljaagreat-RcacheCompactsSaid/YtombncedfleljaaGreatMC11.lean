import Derived.Test.YtombncedfleljaaGreatMC10
set_option linter.unusedSimpArgs false
set_option maxRecDepth 100000
set_option maxHeartbeats 40000000
namespace Go.Proofs.YtombncedfleljaaGreat
open Go.RowKit
attribute [local irreducible] wpQuiet wpAnyH
theorem eL{w:World}{g:Nat}{t:TypeId}(pre mid post new:List Value)(hB:Blk w g t (pre++mid++post).toArray)(hl:mid.length=new.length):
  Blk (w.setCells g pre.length new) g t (pre++new++post).toArray∧Off g w (w.setCells g pre.length new)∧(w.setCells g pre.length new).heap.size=w.heap.size:=by
 have h1:=dQ new pre.length w _ hB;rw[qZ pre mid post new hl] at h1;have h2:=(aO (Nat.le_refl g) new pre.length w);exact⟨h1,⟨h2.1.os,h2.1.tape,h2.1.output,by omega,fun k _ hk=>bA hk new pre.length w⟩,h2.2⟩
theorem eT{P:Program}{ops:Array Oper}{rest:List Oper}{o:Oper}{a:Act}{w:World}{Q:Exit→Act→World→Prop}(ty:TypeId)(x y:Operand)(ho:o.op = .store ty x y)(hw:Region.wanted o (yielded ops a.tmps)=true)
  {g t:Nat} (pre mid post new:List Value) (hx:a.eval x = .pointer (some ⟨g,pre.length,none⟩)) (hy:a.eval y = .agg new.toArray) (hB:Blk w g t (pre++mid++post).toArray)
  (hi:(P.info? ty).map (·.size)=some new.length) (hl:mid.length=new.length) (h1:∀ u∈new,u.oneCell'=true)
  (h:∀ w2,Blk w2 g t (pre++new++post).toArray→Off g w w2→w2.heap.size=w.heap.size→wpList P ops Q rest (a.put o.dst undef) w2):
  wpList P ops Q (o :: rest) a w:=
 wpList_step fun K hK=>by
  rw[if_pos hw];refine wp_store_mid ty x y ho g pre.length new.toArray hx hy (cZ hB (by simp;omega)) (by simpa using hi) (all_oneCell_toArray h1) ?_;rw[jt];obtain⟨h2,h3,h4⟩:=eL pre mid post new hB hl;exact hK _ _ (h _ h2 h3 h4)
def fillW:DiskD→Int→List (List Int)→Ans×DiskD
 | d,_,[]=>(syncA d,syncS d)
 | d,a,s :: r=>match writeA d a with|some x=>(some x,writeD d a s)|none=>fillW (writeD d a s) (a+1) r
def fillR(d:DiskD)(f z:Int)(g:Nat)(l:List (List Int×Int)):Ans×DiskD:=
 if room z<l.length then (some (13,none),d) else if l.all aS then fillW d (f+1) (l.map (aD g)) else (some (15,none),d)
def iF(g:Nat)(l:List (List Int×Int))(k:Nat):List Value:=((l.take k).map (aD g)++List.replicate (l.length-k) zsec).flatMap u8s
theorem yO(g:Nat)(l:List (List Int×Int)):iF g l 0=(List.replicate l.length zsec).flatMap u8s:=by simp[iF]
theorem AG(g:Nat)(l:List (List Int×Int)):iF g l l.length=(l.map (aD g)).flatMap u8s:=by simp[iF]
theorem KS(L:List (List Int))(h:∀ s∈L,Sec s):(L.flatMap u8s).length=L.length*64:=by
 induction L with
 | nil=>rfl
 | cons s L ih=>
  rw[List.flatMap_cons,List.length_append,ih fun x hx=>h x (by simp[hx]),aG (h s (by simp)),List.length_cons];omega
theorem AH(g:Nat)(l:List (List Int×Int))(hl:∀ q∈l,EntOk q)(k:Nat)(hk:k<l.length):∃ pre post,iF g l k=pre++u8s zsec++post∧iF g l (k+1)=pre++u8s (aD g l[k])++post∧pre.length=k*64:=by
 refine⟨((l.take k).map (aD g)).flatMap u8s,(List.replicate (l.length-(k+1)) zsec).flatMap u8s,?_,?_,?_⟩
 ·unfold iF;rw[show l.length-k=(l.length-(k+1))+1 by omega,List.replicate_succ,List.flatMap_append,List.flatMap_cons,List.append_assoc]
 ·unfold iF;rw[List.take_succ_eq_append_getElem hk,List.map_append,List.flatMap_append,List.flatMap_append];simp
 ·rw[KS _ (fun s hs=>by
   obtain⟨q,hq,rfl⟩:=List.mem_map.1 hs
   exact dX g (hl q (List.mem_of_mem_take hq)))]
  rw[List.length_map,List.length_take,Nat.min_eq_left (by omega)]
theorem JE{w:World}{A:Option Addr}{cap:Nat}{l:List (List Int×Int)}(h:Sn w 33 (.slice A l.length cap) l.length (l.flatMap aC))(hok:∀ q∈l,EntOk q)(k:Nat)(hk:k<l.length):
  ∃ b off,A=some ⟨b,off,none⟩∧w.rangeAt b (off+k*33) (aC l[k]):=by
 obtain⟨b,off,rfl,hr⟩:=h.range k hk;rw[dL aC 33 l (fun q hq=>aH q (hok q hq)) k hk] at hr;exact⟨b,off,rfl,hr⟩
theorem AI(d:DiskD)(a:Int)(L:List (List Int))(k:Nat)(hk:k<L.length):fillW d a (L.drop k)=match writeA d a with|some x=>(some x,writeD d a L[k])|none=>fillW (writeD d a L[k]) (a+1) (L.drop (k+1)):=by
 rw[List.drop_eq_getElem_cons hk];rfl
end Go.Proofs.YtombncedfleljaaGreat
