import Derived.ChangeSlices
import Derived.Test.YtombncedfleljaaGreatMC46
set_option linter.unusedVariables false
set_option linter.unusedSimpArgs false
set_option maxRecDepth 100000
set_option maxHeartbeats 40000000
namespace Go.Proofs.YtombncedfleljaaGreat
section
open Go.RowKit Go.ChangeShapes Go.WideShapes Go.Deep
section
variable {H : Type} {enc : TypeId × Value → H} {w : World} {base : Nat} {spare : Nat → Bool} {held : Bool}
end
end
section
open Go.RowKit Go.ChangeShapes Go.WideShapes Go.Deep
section
variable {H : Type} {enc : TypeId × Value → H} {w : World} {base : Nat} {held : Bool}
theorem KE{P:Program}{t e:TypeId}{k:IntKind}{fuel:Nat}{cs:List Value}{spare:Nat→Bool}{x:DataW H×List MemPlace}(ht:P.underlying t=some (.slice e))(he:P.underlying e=some (.int k))(hc:P.cellsOf e=1)
  (h:DataW.trod enc P w base spare held fuel t cs=some x):
  ∃(A:Option Addr) (cap:Nat) (zs:List Int),cs=[.slice A zs.length cap]∧Sn w 1 (.slice A zs.length cap) zs.length (zs.map (Value.int k))∧zs.length≤9223372036854775807∧∀ n∈zs,(Lit.int k n).wf=true:=by
 rcases open_ints ht he hc h with ⟨rfl,_⟩|⟨a,len,cap,zs,rfl,hb,hl,hm,hlen,_,hcell,hwf⟩
 ·exact⟨none,0,[],rfl,⟨none,0,rfl,Nat.le_refl _,by simp,fun h=>absurd h (by simp)⟩,by simp,fun n hn=>by cases hn⟩
 ·have hlz:len≤zs.length:=by rw[hlen];split <;> omega
  have ht':(zs.take len).length=len:=by simp;omega
  refine⟨some a,cap,zs.take len,by rw[ht'],?_,by rw[ht'];unfold maxLen at hm;omega,fun n hn=>hwf n (List.mem_of_mem_take hn)⟩;rw[ht'];refine⟨some a,cap,rfl,hl,by simp;omega,fun hp=>?_⟩;obtain⟨b,off,spot⟩:=a;have hspot:spot=none:=by simpa [Addr.add] using World.cell?_spot (hcell 0 (by omega))
  subst hspot;refine⟨b,off,rfl,fun j u hj=>?_⟩;rw[List.getElem?_map,Option.map_eq_some_iff] at hj;obtain⟨n,hn,rfl⟩:=hj;have hjl:j<len:=by
   have:=(List.getElem?_eq_some_iff.1 hn).1;rw[ht'] at this;exact this
  rw[List.getElem?_take_of_lt hjl] at hn;have:=hcell j (by omega);rw[List.getD_eq_getElem?_getD,hn] at this;by_cases hj0:j=0
  ·subst hj0;simpa [Addr.add] using this
  ·simpa [Addr.add,hj0] using this
theorem BT{P:Program}{t e:TypeId}{fuel:Nat}{cs:List Value}{spare:Nat→Bool}{x:DataW H×List MemPlace}(ht:P.underlying t=some (.slice e))(h:DataW.trod enc P w base spare held fuel t cs=some x):
  ∃(A:Option Addr) (len cap:Nat),cs=[.slice A len cap]∧len≤9223372036854775807:=by
 rcases open_slice ht h with ⟨h0,_⟩|⟨a,len,cap,m,n,D,Pl,hcs,hb,hl,hm,hmm,_,hi⟩
 ·exact⟨none,0,0,h0,by omega⟩
 ·exact⟨some a,len,cap,hcs,by unfold maxLen at hm;omega⟩
theorem vD(fuel:Nat)(cs:List Value)(x:DataW H×List MemPlace)(h:DataW.trod enc Tryz.prog w base (fun _=>true) held fuel 31 cs=some x):∃ o,Op21Ok w o∧cs=aZ o:=by
 obtain⟨xs,n,_,_,hl,hx,hf⟩:=DataW.trod_struct Tryz.underlying31 h;have hC:Tryz.prog.cellsOf 31=5:=by kernel_rfl
 rw[hC] at hl;have hx3:xs.length=5:=hx;have g:∀ i,i<5→xs[i]? = some (xs[i]?.getD (.nil,[])):=fun i hi=>by simp[List.getElem?_eq_getElem (show i<xs.length by omega)]
 have f0:=(hf 0 _ rfl).trans (g 0 (by omega));have f1:=(hf 1 _ rfl).trans (g 1 (by omega));have f2:=(hf 2 _ rfl).trans (g 2 (by omega));have f3:=(hf 3 _ rfl).trans (g 3 (by omega));have f4:=(hf 4 _ rfl).trans (g 4 (by omega));obtain⟨k0,h0,_,w0⟩:=DataW.trod_int Tryz.underlying3 f0;obtain⟨k1,h1,_,w1⟩:=DataW.trod_int Tryz.underlying3 f1;obtain⟨k2,h2,_,w2⟩:=DataW.trod_int Tryz.underlying3 f2;obtain⟨k3,h3,_,w3⟩:=DataW.trod_int Tryz.underlying2 f3;obtain⟨A7,c7,z7,h7,s7,_,w7⟩:=KE Tryz.underlying29 Tryz.underlying3 (by kernel_rfl) f4;clear f0 f1 f2 f3 f4 hf hx hx3 g;have c1:Tryz.prog.cellsOf 3=1:=by kernel_rfl
 have c2:Tryz.prog.cellsOf 2=1:=by kernel_rfl
 have c7':Tryz.prog.cellsOf 29=1:=by kernel_rfl
 replace h0:(cs.drop 0).take (Tryz.prog.cellsOf 3)=[.int .i64 k0]:=h0;replace h1:(cs.drop 1).take (Tryz.prog.cellsOf 3)=[.int .i64 k1]:=h1;replace h2:(cs.drop 2).take (Tryz.prog.cellsOf 3)=[.int .i64 k2]:=h2;replace h3:(cs.drop 3).take (Tryz.prog.cellsOf 2)=[.int .i64 k3]:=h3;replace h7:(cs.drop 4).take (Tryz.prog.cellsOf 29)=[.slice A7 z7.length c7]:=h7;rw[c1] at h0 h1 h2;rw[c2] at h3;rw[c7'] at h7;refine⟨⟨k0,k1,k2,k3,z7,.slice A7 z7.length c7⟩,⟨i7 w0,i7 w1,i7 w2,i7 w3,s7,fun n hn=>i7 (w7 n hn)⟩,?_⟩;clear hC h w0 w1 w2 w3 w7 s7;have e0:cs=(cs.drop 0).take 1++((cs.drop 1).take 1++((cs.drop 2).take 1++((cs.drop 3).take 1++(cs.drop 4).take 1))):=by
  have h9:cs.drop 5=[]:=List.drop_eq_nil_of_le (by omega);have st:∀ i n,cs.drop i=(cs.drop i).take n++cs.drop (i+n):=fun i n=>by rw[← List.drop_drop,List.take_append_drop]
  conv=>lhs;rw[← List.drop_zero (l:=cs),st 0 1,st 1 1,st 2 1,st 3 1,st 4 1,h9]
  rw[List.append_nil]
 rw[e0,h0,h1,h2,h3,h7];rfl
theorem tF{fuel:Nat}{A:Option Addr}{len cap:Nat}{x:DataW H×List MemPlace}(h:DataW.trod enc Tryz.prog w base (fun _=>true) held fuel 22 [.slice A len cap]=some x):
  ∃ l:List Op21,l.length=len∧l.length≤9223372036854775807∧(∀ r∈l,Op21Ok w r)∧Sn w 5 (.slice A len cap) len (l.flatMap aZ):=by
 obtain⟨l,h1,h2,h3⟩:=zZ aZ (Op21Ok w) 5 (by decide) (fun o _=>fP o) Tryz.underlying22 (by kernel_rfl) vD h;obtain⟨_,_,_,h4,h5⟩:=BT Tryz.underlying22 h;simp only[List.cons.injEq,Value.slice.injEq,and_true] at h4;exact⟨l,h1,by omega,h2,h3⟩
end
end
section
open Go.RowKit Go.ChangeShapes Go.WideShapes Go.Deep
theorem vF{H:Type}{enc:TypeId×Value→H}{w:World}{base:Nat}{held:Bool}{v:Value}{r:Reach}{b0:Nat}{x:DataW H}{ps:List MemPlace}(hv:Value.okWide Tryz.prog w r b0 31 v)(h:DataW.Trod enc Tryz.prog w base (fun _=>true) held 31 v x ps):∃ p,Op21Ok w p∧v = .agg (aZ p).toArray:=by
 obtain⟨cs,rfl,_⟩:=okWide_struct Tryz.underlying31 hv;obtain⟨fuel,hf⟩:=h;obtain⟨p,hp,he⟩:=vD _ _ _ hf;refine⟨p,hp,?_⟩;have he:cs.toList=aZ p:=he;rw[← he]
end
section
open Go.RowKit
attribute [local irreducible] wpQuiet wpAnyH
theorem DK.same{w w':World}{m:DiskM}{d:DiskD}(h:DK w m d)(hk:∀ b,b<w.heap.size→¬Apart m b→w'.heap[b]? = w.heap[b]?)(hs:w.heap.size≤w'.heap.size):DK w' m d where
 blk:=(hk m.g h.blk.lt (fun ha=>ha.1 (fU m))).trans h.blk
 sec:=bU h.sec fun x hx=>hk x (h.sec.lt x hx).2 (fun ha=>ha.1 (lC hx))
 opn:=bU h.opn fun x hx=>hk x (h.opn.lt x hx).2 (fun ha=>ha.1 (mZ hx))
 last:=h.last.of_block (hk _ h.last.lt (fun ha=>ha.1 (jP m)))
 fl:=h.fl.of_block (hk _ h.fl.lt (fun ha=>ha.1 (jQ m)))
 cr:=h.cr.of_block (hk _ h.cr.lt (fun ha=>ha.1 (iQ m)))
 nd:=h.nd
 flv:=h.flv
 crv:=fun k hi=>by
  have:=h.crv k hi;cases hc:d.cr k with
  | none=>rw[hc] at this;exact this
  | some cs=>
   rw[hc] at this;obtain⟨v,h1,h2,h3⟩:=this;exact⟨v,h1,h2.same (fun b e=>hk b (h3 b e).2 (fun ha=>ha.2 k hi v h1 e)),fun b hb=>⟨(h3 b hb).1,Nat.lt_of_lt_of_le (h3 b hb).2 hs⟩⟩
 ok:=h.ok
section
variable {w0 w w' : World} {m : DiskM} {d : DiskD} {n : Nat} {cv : Value} {F : List Nat} {co : Option CacheD} {mr : RM} {r : RefD} {v x : Value} {C : RCach}
theorem PP.same(h:PP w0 w m d n cv F co mr r v x C)(hk:∀ b,b<w.heap.size→(¬Far m F b∨bF mr r v x b)→w'.heap[b]? = w.heap[b]?)(hb:Below w0.heap.size w0 w')(hs:w.heap.size≤w'.heap.size):PP w0 w' m d n cv F co mr r v x C:=by
 have hdk:DK w' m d:=h.st.dk.same (fun b h1 h2=>hk b h1 (.inl (fun hf=>h2 hf.1))) hs;refine⟨⟨hdk,h.st.ft,hb⟩,?_,h.rv.same (fun b hr=>hk b (h.rv.bl b hr) (.inr hr)) hs,h.dj⟩;refine h.co.imp id (fun⟨gc,gl,gi,bi,Cc,h1,h2,h3,h4,h5⟩=>⟨gc,gl,gi,bi,Cc,h1,h2,h3,?_,h5⟩);have hF:∀ b∈F,b<w.heap.size→w'.heap[b]? = w.heap[b]?:=fun b hb1 hb2=>hk b hb2 (.inl (fun hf=>hf.2 hb1))
 have lt:=h4.ix.lt;exact⟨⟨hdk,(hF gl (by simp[h2]) h4.lk.blk.lt).trans h4.lk.blk,h4.lk.ap,h4.lk.ok⟩,(hF gc (by simp[h2]) h4.blk.lt).trans h4.blk,h4.ix.same (hF gi (by simp[h2]) lt.1) (hF bi (by simp[h2]) lt.2),h4.ac,h4.ai,h4.ab,h4.ne,h4.i64⟩
end
structure TW(W:World)(m:DiskM)(F:List Nat)(R:Nat→Prop)(gz:Nat)(m2:DiskM)(F2:List Nat)(R2:Nat→Prop)(g2:Nat):Prop where
 c:∀ b,b<W.heap.size→Far m F b∨Far m2 F2 b
 r1:∀ b,R b→Far m2 F2 b∧b≠g2
 r2:∀ b,R2 b→Far m F b∧b≠gz
 z1:Far m2 F2 gz∧¬R2 gz
 z2:Far m F g2∧¬R g2
 ne:gz≠g2
theorem TW.symm{W:World}{m m2:DiskM}{F F2:List Nat}{R R2:Nat→Prop}{gz g2:Nat}(h:TW W m F R gz m2 F2 R2 g2):TW W m2 F2 R2 g2 m F R gz:=
 ⟨fun b hb=>(h.c b hb).symm,h.r2,h.r1,h.z2,h.z1,h.ne.symm⟩
section
variable {w0 W W' : World} {gz g2 N k k2 : Nat} {m m' m2 : DiskM} {d d2 : DiskD} {cv cv' cv2 : Value} {F F' F2 : List Nat} {co co2 : Option CacheD} {mr mr' mr2 : RM} {r r' r2 : RefD} {v v' x x' v2 x2 : Value} {C C' C2 : RCach} {now now2 : Int}
theorem TW.step(t:TW W m F (bF mr r v x) gz m2 F2 (bF mr2 r2 v2 x2) g2)(h2:BY w0 W g2 N k2 m2 d2 cv2 F2 co2 mr2 r2 v2 x2 C2 now2)(hx:XF W m F W' m' F')(hb:Below w0.heap.size w0 W')(hs:∀ b,bF mr' r' v' x' b→bF mr r v x b∨W.heap.size≤b):
  BY w0 W' g2 N k2 m2 d2 cv2 F2 co2 mr2 r2 v2 x2 C2 now2∧TW W' m' F' (bF mr' r' v' x') gz m2 F2 (bF mr2 r2 v2 x2) g2:=by
 have hpp:PP w0 W' m2 d2 (20+k2) cv2 F2 co2 mr2 r2 v2 x2 C2:=h2.pp.same (fun b hl hu=>by
  rcases hu with hu|hu
  ·exact(hx.2 b hl ((t.c b hl).resolve_right hu)).1
  ·exact(hx.2 b hl (t.r2 b hu).1).1) hb hx.1
 refine⟨⟨hpp,((hx.2 g2 h2.b.lt t.z2.1).1).trans h2.b,h2.f,h2.nr,h2.h0,h2.rm,h2.dl,h2.rl,h2.rs,h2.ro,h2.rp,h2.el,h2.n0,h2.n1⟩,⟨fun b hl=>?_,fun b hr=>?_,fun b hr=>⟨(hx.2 b (h2.pp.rv.bl b hr) (t.r2 b hr).1).2,(t.r2 b hr).2⟩,t.z1,⟨(hx.2 g2 h2.b.lt t.z2.1).2,fun hr=>?_⟩,t.ne⟩⟩
 ·rcases Nat.lt_or_ge b W.heap.size with h|h
  ·exact(t.c b h).imp (fun hf=>(hx.2 b h hf).2) id
  ·exact .inr (h2.pp.far_new h)
 ·rcases hs b hr with h|h
  ·exact t.r1 b h
  ·exact⟨h2.pp.far_new h,fun e=>by have:=h2.b.lt;omega⟩
 ·rcases hs g2 hr with h|h
  ·exact(t.r1 g2 h).2 rfl
  ·have:=h2.b.lt;omega
theorem TW.store(t:TW W m F (bF mr r v x) gz m2 F2 (bF mr2 r2 v2 x2) g2)(h2:BY w0 W g2 N k2 m2 d2 cv2 F2 co2 mr2 r2 v2 x2 C2 now2)(ho:Off gz W W')(hg:w0.heap.size≤gz):BY w0 W' g2 N k2 m2 d2 cv2 F2 co2 mr2 r2 v2 x2 C2 now2∧(W'.heap.size=W.heap.size→TW W' m F (bF mr r v x) gz m2 F2 (bF mr2 r2 v2 x2) g2):=
 ⟨⟨h2.pp.off ho t.z1.1 hg t.z1.2,ho.blk h2.b t.ne.symm,h2.f,h2.nr,h2.h0,h2.rm,h2.dl,h2.rl,h2.rs,h2.ro,h2.rp,h2.el,h2.n0,h2.n1⟩,fun e=>⟨fun b hb=>t.c b (e ▸ hb),t.r1,t.r2,t.z1,t.z2,t.ne⟩⟩
end
end
section
open Go.RowKit
attribute [local irreducible] wpQuiet wpAnyH
def NP(d:DiskD):Prop:=(∀ k,d.fl k=false)∧∀ k,d.cr k=none
theorem NP.stepped{d:DiskD}(h:NP d):NP (stepped d):=⟨fun k=>by
 show(if _ then false else d.fl k)=false
 split
 ·rfl
 ·exact h.1 k,fun k=>by
 show(if _ then none else d.cr k)=none
 split
 ·rfl
 ·exact h.2 k⟩
theorem NP.addIf{d:DiskD}(h:NP d)(a:Int)(s:List Int):NP (addIf d a s):=by
 unfold Go.Proofs.YtombncedfleljaaGreat.addIf;split
 ·exact h
 ·exact h
theorem NP.crash{d:DiskD}(h:NP d)(cl:List Int):NP (eE d cl):=h
theorem NP.writeD{d:DiskD}(h:NP d)(a:Int)(s:List Int):NP (writeD d a s):=by
 unfold Go.Proofs.YtombncedfleljaaGreat.writeD;split
 ·exact h
 split
 ·exact(h.stepped.addIf a s).crash _
 split
 ·exact h.stepped
 ·exact h.stepped.addIf a s
theorem NP.syncS{d:DiskD}(h:NP d):NP (syncS d):=by
 unfold Go.Proofs.YtombncedfleljaaGreat.syncS;split
 ·exact h
 split
 ·exact h.stepped.crash _
 split
 ·exact h.stepped
 ·exact h.stepped
theorem NP.wsD{d:DiskD}(h:NP d)(a:Int)(s:List Int):NP (wsD d a s):=by
 unfold Go.Proofs.YtombncedfleljaaGreat.wsD;split
 ·exact h.writeD a s
 ·exact(h.writeD a s).syncS
theorem NP.fillW:∀(l:List (List Int)) {d:DiskD} (a:Int),NP d→NP (fillW d a l).2
 | [],d,a,h=>h.syncS
 | s :: r,d,a,h=>by
  unfold Go.Proofs.YtombncedfleljaaGreat.fillW;split
  ·exact h.writeD a s
  ·exact NP.fillW r (a+1) (h.writeD a s)
theorem NP.fillR{d:DiskD}(h:NP d)(f z:Int)(g:Nat)(l:List aW):NP (fillR d f z g l).2:=by
 unfold Go.Proofs.YtombncedfleljaaGreat.fillR;split
 ·exact h
 split
 ·exact NP.fillW _ _ h
 ·exact h
theorem NP.putD{d:DiskD}(h:NP d)(f z p:Int)(g:Nat)(q:aW):NP (putD d f z p g q):=by
 unfold Go.Proofs.YtombncedfleljaaGreat.putD;split
 ·exact h
 split
 ·exact h
 split
 ·exact h.wsD _ _
 ·exact h
theorem NP.appD{d:DiskD}(h:NP d)(hh:Nat)(L:LogD)(q:aW):NP (appD d hh L q):=by
 unfold Go.Proofs.YtombncedfleljaaGreat.appD;split
 ·exact h
 ·exact h.putD _ _ _ _ _
theorem NP.rewR{d:DiskD}(h:NP d)(hh:Nat)(L:LogD)(qs:List aW):NP (rewR d hh L qs).2.1:=by
 unfold Go.Proofs.YtombncedfleljaaGreat.rewR;split
 ·exact h
 split
 ·exact h
 ·have h1:=h.fillR (aY hh (1-L.side)) hh (max L.last L.gen+1) qs;unfold p7 p6;split
  ·exact h1
  ·split
   ·exact h1.wsD _ _
   ·exact h1.wsD _ _
theorem NP.cmpR{d:DiskD}(h:NP d)(hh:Nat)(C:CacheD)(now:Int):NP (cmpR d hh C now).2.1:=by
 have h1:=h.rewR hh C.L (aE C.E now);unfold Go.Proofs.YtombncedfleljaaGreat.cmpR;split <;> exact h1
theorem NP.insT{d:DiskD}(h:NP d)(hh:Nat)(C:CacheD)(q:aW):NP (insT d hh C q).2.1:=by
 unfold Go.Proofs.YtombncedfleljaaGreat.insT;split
 ·exact h
 ·split <;> exact h.appD _ _ _
theorem NP.insR{d:DiskD}(h:NP d)(hh:Nat)(C:CacheD)(q:aW)(now:Int):NP (insR d hh C q now).2.1:=by
 have h1:=h.cmpR hh C now;unfold Go.Proofs.YtombncedfleljaaGreat.insR;split
 ·exact h
 split
 ·exact h
 split
 ·exact h
 split
 ·exact h
 split
 ·split
  ·exact h1
  ·exact h1.insT _ _ _
 ·exact h.insT _ _ _
theorem NP.openR{d:DiskD}(h:NP d):NP (openR d).2.1:=by
 have h1:=h.syncS;unfold Go.Proofs.YtombncedfleljaaGreat.openR;split
 ·exact h
 split
 ·exact h1
 ·unfold fF;split
  ·exact h1
  split
  ·exact h1
  split
  ·exact h1.wsD _ _
  ·exact h1.wsD _ _
theorem NP.start{d:DiskD}(h:NP d):NP (dW d):=h
theorem NP.opI{d:DiskD}(h:NP d)(co:Option CacheD)(o:Op21)(now:Int)(h4:o.kind≠4)(h5:o.kind≠5):NP (opI d co o now).1:=by
 unfold Go.Proofs.YtombncedfleljaaGreat.opI;split
 ·cases co with
  | none=>exact h
  | some C=>exact h.insR _ C _ now
 split
 ·cases co with
  | none=>exact h
  | some C=>exact h.cmpR _ C now
 split
 ·exact h.openR
 split
 ·exact h
 split
 ·exact h.crash _
 ·exact h.start.openR
theorem NP.new(n:Nat):NP (fV n):=⟨fun _=>rfl,fun _=>rfl⟩
theorem NP.calm{d:DiskD}(h:NP d)(ho:d.opn=[])(hd:d.down=false):d=qD d.sec [] d.steps d.room:=by
 obtain⟨h1,h2⟩:=h;have e1:d.fl=fun _=>false:=funext h1
 have e2:d.cr=fun _=>none:=funext h2
 cases d
 simp only at e1 e2 ho hd;subst e1 e2 ho hd;rfl
theorem tG{P:EL→Prop}(h0:P [])(h1:∀ l q,P l→P (l++[q])):∀(n:Nat) (l:EL),l.length=n→P l
 | 0,l,h=>by rw[List.length_eq_zero_iff.1 h];exact h0
 | n+1,l,h=>by
  have hne:l≠[]:=fun e=>by rw[e] at h;cases h
  rw[← List.dropLast_concat_getLast hne];exact h1 _ _ (tG h0 h1 n _ (by rw[List.length_dropLast];omega))
theorem vG(l:EL)(q:aW):(aM l q).1.length≤l.length+1:=by
 have:=kD l q;omega
theorem K8(l:EL):(bN l).length≤l.length:=
 tG (P:=fun l=>(bN l).length≤l.length) (Nat.le_refl _) (fun l q h=>by
  rw[C9]
  have:=vG (bN l) q
  rw[List.length_append,List.length_singleton]
  omega) l.length l rfl
theorem IR(l:EL):(∀ q∈l,aS q=true)→∀ q∈bN l,aS q=true:=
 tG (P:=fun l=>(∀ q∈l,aS q=true)→∀ q∈bN l,aS q=true) (fun _ q hq=>by cases hq) (fun l q h hr=>by
  rw[C9]
  exact mU _ _ _ (h (fun p hp=>hr p (List.mem_append.2 (.inl hp)))) (hr q (List.mem_append.2 (.inr (List.mem_singleton.2 rfl))))) l.length l rfl
def PT:Nat→List aW→Prop:=fun _ _=>True
def UC(N K:Nat)(d:DiskD)(C:CacheD):Prop:=∃ es,SA PT N K d C.L es∧C.E.length≤es.length∧WL C.E∧∀ q∈C.E,aS q=true
structure IC(N K:Nat)(d:DiskD)(co:Option CacheD):Prop where
 np:NP d
 sb:SB PT N K d
 co:∀ C,co=some C→C.L.brk=true∨UC N K d C
theorem UC.more{N K K':Nat}{d:DiskD}{C:CacheD}(h:UC N K d C)(hK:K≤K'):UC N K' d C:=by
 obtain⟨es,h1,h2,h3,h4⟩:=h;exact⟨es,h1.imp (fun h=>h) hK,h2,h3,h4⟩
theorem IC.more{N K K':Nat}{d:DiskD}{co:Option CacheD}(h:IC N K d co)(hK:K≤K'):IC N K' d co:=
 ⟨h.np,h.sb.imp (fun _ _ h=>h) hK,fun C e=>(h.co C e).imp id (fun u=>u.more hK)⟩
theorem BU{N K:Nat}{d:DiskD}{C:CacheD}(h:UC N K d C)(hk:DOk d)(hK:K+1<256)(now:Int):
  SB PT N (K+1) (cmpR d (N/2) C now).2.1∧((cmpR d (N/2) C now).2.2.L.brk=true∨UC N (K+1) (cmpR d (N/2) C now).2.1 (cmpR d (N/2) C now).2.2):=by
 obtain⟨es,hsa,hle,hwl,hri⟩:=h;have hw2:=hwl.live now;have h1:=sY (P':=PT) hsa hk hK hw2.ok trivial (fun _ _=>trivial);unfold cmpR;rcases h1 with ⟨a1,a2,_⟩|⟨x,a1,a2,a3,a4⟩|⟨x,a1,a2,a3,a4,a5⟩
 ·rw[a1];exact⟨a2.sb,.inr ⟨_,a2,Nat.le_refl _,hw2,fun q hq=>hri q (List.mem_filter.1 hq).1⟩⟩
 ·rw[a1];refine⟨a3,.inl ?_⟩;show(rewR d (N/2) C.L (aE C.E now)).2.2.brk=true;rw[a4]
 ·rw[a1];show SB PT N (K+1) (rewR d (N/2) C.L (aE C.E now)).2.1∧((rewR d (N/2) C.L (aE C.E now)).2.2.brk=true∨UC N (K+1) (rewR d (N/2) C.L (aE C.E now)).2.1 ⟨(rewR d (N/2) C.L (aE C.E now)).2.2,C.E,C.til⟩);rw[a4,a5];have h2:=hsa.imp (P':=PT) (fun h=>h) (Nat.le_succ K);exact⟨h2.sb,.inr ⟨es,h2,hle,hwl,hri⟩⟩
theorem DJ{N K:Nat}{d:DiskD}{C:CacheD}{q:aW}(h:UC N K d C)(hk:DOk d)(hK:K<256)(hq:EntOk q)(hr:aS q=true):
  SB PT N K (insT d (N/2) C q).2.1∧((insT d (N/2) C q).2.2.L.brk=true∨UC N K (insT d (N/2) C q).2.1 (insT d (N/2) C q).2.2):=by
 obtain⟨es,hsa,hle,hwl,hri⟩:=h;unfold insT;split
 ·exact⟨hsa.sb,.inr ⟨es,hsa,hle,hwl,hri⟩⟩
 ·have h1:=E3 (P':=PT) hsa hk hK hq trivial trivial;rcases h1 with ⟨a1,a2,_⟩|⟨x,a1,a2,a3,a4⟩|⟨x,a1,a2,a3,a4,a5⟩
  ·rw[a1];exact⟨a2.sb,.inr ⟨_,a2,by rw[List.length_append,List.length_singleton];have:=vG C.E q;show(aM C.E q).1.length≤_;omega,hwl.put hq,mU _ _ _ hri hr⟩⟩
  ·rw[a1];refine⟨a3,.inl ?_⟩;show(iI d (N/2) C.L q).brk=true;rw[a4]
  ·rw[a1];show SB PT N K (appD d (N/2) C.L q)∧((iI d (N/2) C.L q).brk=true∨UC N K (appD d (N/2) C.L q) ⟨iI d (N/2) C.L q,C.E,C.til⟩);rw[a4,a5];exact⟨hsa.sb,.inr ⟨es,hsa,hle,hwl,hri⟩⟩
theorem IT{N K:Nat}{d:DiskD}{C:CacheD}{q:aW}{now:Int}(h:UC N K d C)(hk:DOk d)(hK:K+1<256)(hq:EntOk q)(hd:DOk (cmpR d (N/2) C now).2.1):
  SB PT N (K+1) (insR d (N/2) C q now).2.1∧((insR d (N/2) C q now).2.2.L.brk=true∨UC N (K+1) (insR d (N/2) C q now).2.1 (insR d (N/2) C q now).2.2):=by
 have h0:=h.more (Nat.le_succ K);have hz:SB PT N (K+1) d∧(C.L.brk=true∨UC N (K+1) d C):=⟨by obtain⟨es,hsa,_⟩:=h0;exact hsa.sb,.inr h0⟩;unfold insR;split
 ·exact hz
 split
 ·exact hz
 split
 ·exact hz
 rename_i n1;split
 ·exact hz
 rename_i n2;have hr:aS q=true:=by
  unfold aS;rw[Bool.and_eq_true];exact⟨decide_eq_true (by omega),decide_eq_true (by omega)⟩
 split
 ·have h1:=BU h hk hK now;split
  ·exact h1
  ·rcases h1.2 with hb|hu
   ·have e1:insT (cmpR d (N/2) C now).2.1 (N/2) (cmpR d (N/2) C now).2.2 q=insT (cmpR d (N/2) C now).2.1 (N/2) (cmpR d (N/2) C now).2.2 q:=rfl;unfold insT;split
    ·exact⟨h1.1,.inl hb⟩
    ·have e2:appD (cmpR d (N/2) C now).2.1 (N/2) (cmpR d (N/2) C now).2.2.L q=(cmpR d (N/2) C now).2.1:=by unfold appD;rw[if_pos hb]
     have e3:iI (cmpR d (N/2) C now).2.1 (N/2) (cmpR d (N/2) C now).2.2.L q=(cmpR d (N/2) C now).2.2.L:=by unfold iI;rw[if_pos hb]
     split
     ·exact⟨by show SB PT N (K+1) (appD _ _ _ _);rw[e2];exact h1.1,.inl (by show(iI _ _ _ _).brk=true;rw[e3];exact hb)⟩
     ·exact⟨by show SB PT N (K+1) (appD _ _ _ _);rw[e2];exact h1.1,.inl (by show(iI _ _ _ _).brk=true;rw[e3];exact hb)⟩
   ·exact DJ hu hd hK hq hr
 ·exact DJ h0 hk hK hq hr
theorem DL{N K:Nat}{d:DiskD}{co:Option CacheD}(h:IC N K d co)(hk:DOk d)(hN:2≤N)(hK:K+1<256)(now:Int):IC N (K+1) (openR d).2.1 (eY d now):=by
 rcases J7 (P:=PT) (fun h=>h) h.sb hk hN hK with ⟨x,a1,a2,a3⟩|⟨L,es,a1,a2,a3⟩
 ·refine⟨h.np.openR,a3,fun C e=>?_⟩;unfold eY at e;rw[a2] at e;cases e
 ·refine⟨h.np.openR,a3.sb,fun C e=>.inr ?_⟩;unfold eY at e;rw[a2] at e;injection e with e
  subst e;have hwl:WL (bN es):=WL.of (fun p hp=>(a3.lv.eo p hp).1);exact⟨es,a3,Nat.le_trans (eX _ _) (K8 es),hwl.live now,fun q hq=>IR es (fun p hp=>(a3.lv.eo p hp).2) q (List.mem_filter.1 hq).1⟩
theorem DOk.start21{d:DiskD}(h:DOk d):DOk (dW d):=⟨h.sec,h.opn,h.few,h.lo,h.st,h.rm,h.cl⟩
theorem KF{w0 w:World}{m:DiskM}{d:DiskD}{n:Nat}{cv:Value}{F:List Nat}{co:Option CacheD}{N K:Nat}(h:IC N K d co)(hst:St w0 w m d)(hco:CO w0 w m d n cv F co)(hn:n≤900)(hr:d.room+40000≤100000)(hN:2≤N)(hK:K+1<256)(o:Op21)(now:Int)(h4:o.kind≠4)(h5:o.kind≠5)(ht:aK (now+o.more)):IC N (K+1) (opI d co o now).1 (opI d co o now).2:=by
 have hnp:=h.np.opI co o now h4 h5;have hk:=hst.dk.ok;have hl:=h.sb.len;have hm:=h.more (Nat.le_succ K);unfold opI at hnp ⊢;split
 ·rename_i e;rw[if_pos e] at hnp;cases co with
  | none=>exact hm
  | some C=>
   have hC:∃ gc gl gi bi,CK w m d gc gl gi bi (d.sec.length/2) n C:=by
    rcases hco with ⟨_,_,e⟩|⟨gc,gl,gi,bi,C',_,_,e,h4,_⟩
    ·cases e
    ·injection e with e;subst e;exact⟨gc,gl,gi,bi,h4⟩
   obtain⟨gc,gl,gi,bi,hck⟩:=hC;have hdk:=xW hck (by omega) (by omega) now;have hq:=g5 o.ent (now+o.more) ht;refine⟨hnp,?_,?_⟩
   ·show SB PT N (K+1) (insR d (d.sec.length/2) C (gZ o.ent (now+o.more)) now).2.1;rcases h.co C rfl with hb|hu
    ·rw[(xU hb).2];exact hm.sb
    ·rw[hl] at hdk ⊢;exact(IT hu hk hK hq hdk).1
   ·intro C2 e2;injection e2 with e2
    subst e2;show(insR d (d.sec.length/2) C (gZ o.ent (now+o.more)) now).2.2.L.brk=true∨UC N (K+1) (insR d (d.sec.length/2) C (gZ o.ent (now+o.more)) now).2.1 (insR d (d.sec.length/2) C (gZ o.ent (now+o.more)) now).2.2;rcases h.co C rfl with hb|hu
    ·rw[(xU hb).2];exact .inl hb
    ·rw[hl] at hdk ⊢;exact(IT hu hk hK hq hdk).2
 rename_i n0;rw[if_neg n0] at hnp;split
 ·rename_i e;rw[if_pos e] at hnp;cases co with
  | none=>exact hm
  | some C=>
   refine⟨hnp,?_,?_⟩
   ·show SB PT N (K+1) (cmpR d (d.sec.length/2) C now).2.1;rcases h.co C rfl with hb|hu
    ·rw[xV hb];exact hm.sb
    ·rw[hl];exact(BU hu hk hK now).1
   ·intro C2 e2;injection e2 with e2
    subst e2;show(cmpR d (d.sec.length/2) C now).2.2.L.brk=true∨UC N (K+1) (cmpR d (d.sec.length/2) C now).2.1 (cmpR d (d.sec.length/2) C now).2.2;rcases h.co C rfl with hb|hu
    ·rw[xV hb];exact .inl hb
    ·rw[hl];exact(BU hu hk hK now).2
 rename_i n1;rw[if_neg n1] at hnp;split
 ·exact DL h hk hN hK now
 rename_i n2;rw[if_neg n2] at hnp;split
 ·exact hm
 rename_i n3;rw[if_neg n3,if_neg h4,if_neg h5] at hnp;split
 ·rename_i e;rw[if_pos e] at hnp;refine⟨hnp,hm.sb.crash hk hK _,fun C e=>(hm.co C e).imp id (fun⟨es,a1,a2,a3,a4⟩=>⟨es,a1.crash _,a2,a3,a4⟩)⟩
 ·exact DL (d:=dW d) (co:=co) ⟨h.np.start,h.sb.startC,fun C e=>(h.co C e).imp id (fun⟨es,a1,a2,a3,a4⟩=>⟨es,a1.disk rfl rfl,a2,a3,a4⟩)⟩ hk.start21 hN hK now
theorem UC.qs{N K:Nat}{d:DiskD}{C:CacheD}(h:UC N K d C)(hnp:NP d)(hk:DOk d)(hK:K≤100)(hd:d.down=false)(hr:d.room≤10000):QS N d C 100:=by
 obtain⟨es,hsa,hle,hwl,hri⟩:=h;have hg:=hsa.k;exact⟨⟨d.sec,d.steps,d.room,hnp.calm hsa.opn hd,hsa.len,hk.st,by omega⟩,hsa.brk,hsa.lv.s2,by omega,hwl,hri,by omega⟩
theorem BV{d:DiskD}(hd:d.down=true)(a:Int)(l:List (List Int)):∃ y,(fillW d a l).1=some (12,y):=by
 cases l with
 | nil=>
  refine⟨none,?_⟩;show syncA d=_;unfold syncA;rw[if_pos hd]
 | cons s r=>
  have h:writeA d a=some (12,none):=by unfold writeA;rw[if_pos hd]
  refine⟨none,?_⟩;unfold fillW;rw[h]
theorem KG{N K:Nat}{d:DiskD}{C:CacheD}(h:UC N K d C)(hk:DOk d)(hK:K+1<256)(hN:N≤4096)(hd:d.down=true)(now:Int):∃ x,(cmpR d (N/2) C now).1=some x∧(cmpR d (N/2) C now).2.2.L.brk=true:=by
 obtain⟨es,hsa,hle,hwl,hri⟩:=h;have hw2:=hwl.live now;have hfit:=hsa.lv.fit;have hlen:=eX C.E now;have hgk:=hsa.k;have hal:∀ q∈aE C.E now,aS q=true:=fun q hq=>hri q (List.mem_filter.1 hq).1
 have e:∃ y,(rewR d (N/2) C.L (aE C.E now)).1=some (12,y):=by
  rw[lR hsa.brk (by omega)];unfold p7;obtain⟨y,hy⟩:=BV hd ((aY (N/2) (1-C.L.side):Nat)+1:Int) ((aE C.E now).map (aD (max C.L.last C.L.gen+1)));have hf:(fillR d (aY (N/2) (1-C.L.side):Nat) (N/2:Nat) (max C.L.last C.L.gen+1) (aE C.E now)).1=some (12,y):=by
   unfold fillR;rw[gC (by omega),if_neg (by omega),if_pos (List.all_eq_true.2 hal)];exact hy
  rw[hf];exact⟨y,rfl⟩
 obtain⟨y,hy⟩:=e;have h1:=sY (P':=PT) hsa hk hK hw2.ok trivial (fun _ _=>trivial);unfold cmpR;rcases h1 with ⟨a1,_⟩|⟨x,a1,a2,a3,a4⟩|⟨x,a1,a2,a3,_⟩
 ·rw[hy] at a1;cases a1
 ·rw[a1];refine⟨x,rfl,?_⟩;show(rewR d (N/2) C.L (aE C.E now)).2.2.brk=true;rw[a4]
 ·rw[hy] at a1;injection a1 with a1
  subst a1;exact absurd rfl a3
theorem vH{d:DiskD}{h:Nat}{C:CacheD}{q:aW}{now:Int}(hb:C.L.brk=false)(hh:fI C.E q.1 now=false)(hn:¬(0≤q.2∧q.2≤4611686018427387904)):(insR d h C q now).1=9:=by
 unfold insR;rw[if_neg (by rw[hh];simp),if_neg (by rw[hb];simp)];by_cases h1:q.2<0
 ·rw[if_pos h1]
 ·rw[if_neg h1,if_pos (by omega)]
theorem L6{N K:Nat}{d:DiskD}{C:CacheD}(h:UC N K d C)(hnp:NP d)(hk:DOk d)(hK:K≤100)(hN:N≤30)(hd:d.down=false)(hr:d.room≤10000)(now:Int):
  ∃ d1 C1,cmpR d (N/2) C now=(none,d1,C1)∧C1.E=aE C.E now∧C1.L.cnt=(aE C.E now).length∧∀ q,EntOk q→(insR d1 (N/2) C1 q now).1=(insR d (N/2) C q now).1:=by
 have hq:=h.qs hnp hk hK hd hr;obtain⟨es,hsa,hle,hwl,hri⟩:=h;have hfit:=hsa.lv.fit;have hcnt:=hsa.cnt;have hlen:=eX C.E now;obtain⟨d1,C1,a1,a2,a3,a4,a5⟩:=IJ hq now (by omega) (by omega) hN;refine⟨d1,C1,a1,a4,a3,fun q hqo=>?_⟩;have hh:fI C1.E q.1 now=fI C.E q.1 now:=by rw[a4];exact GV _ _ _
 have hll:aE C1.E now=aE C.E now:=by rw[a4];exact sI _ (Int.le_refl _)
 cases hb:fI C.E q.1 now with
 | true=>
  unfold insR;rw[if_pos (by rw[hh,hb]),if_pos hb]
 | false=>
  cases hrr:aS q with
  | false=>
   have hn:¬(0≤q.2∧q.2≤4611686018427387904):=fun hx=>by
    have:aS q=true:=by unfold aS;rw[Bool.and_eq_true];exact⟨decide_eq_true hx.1,decide_eq_true hx.2⟩
    rw[this] at hrr;cases hrr
   rw[vH a2.brk (hh.trans hb) hn,vH hq.brk hb hn]
  | true=>
   have hb1:fI C1.E q.1 now=false:=hh.trans hb;rcases Nat.lt_or_ge ((aE C.E now).length+1) (N/2) with hlt|hge
   ·obtain⟨_,_,e1,_⟩:=tD a2 hqo hrr hb1 (by omega) (by omega);rw[e1];rcases Nat.lt_or_ge (C.L.cnt+1) (N/2) with h2|h2
    ·obtain⟨_,_,e2,_⟩:=tD hq hqo hrr hb (by omega) (by omega);rw[e2]
    ·obtain⟨_,_,e2,_⟩:=IL hq hqo hrr hb (by omega) (by omega) (by omega) hN;rw[e2]
   ·obtain⟨_,_,e1,_⟩:=BO a2 hrr hb1 (by omega) (by rw[hll];omega) (by omega) hN;obtain⟨_,_,e2,_⟩:=BO hq hrr hb (by omega) (by omega) (by omega) hN;rw[e1,e2]
end
end Go.Proofs.YtombncedfleljaaGreat
