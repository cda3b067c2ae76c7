import Derived.Test.YtiaigidbcljblaaGreatDoorME18
import Derived.Test.YtiaigidbcljblaaGreatDoorME17
import Derived.Test.YtiaigidbcljblaaGreatDoorME5
import Derived.Test.YtiaigidbcljblaaGreatDoorME11
import Derived.Laws.Shifts
import Derived.Test.YtiaigidbcljblaaGreatDoorME1
import Derived.DeepKeys
import Derived.Deep.MidRow
import Derived.WideKeyArr
import Derived.DeepKeys2
import Derived.Maps.OwnSet
import Derived.Maps.RangeWalk
import Derived.Deep.RegionHeld3
set_option linter.unusedVariables false
set_option linter.unusedSimpArgs false
set_option maxRecDepth 100000
set_option maxHeartbeats 40000000
namespace Go.Proofs.YtiaigidbcljblaaGreatDoor
section
open Go.RowKit
attribute [local irreducible] wpQuiet wpAnyH
theorem part1_zero:part1 0=zsec:=by unfold part1;simp
theorem tag_zsec:tagS zsec=0:=by rw[← part1_zero];exact(part1_none (by omega)).2
theorem Fresh.tag{sec:List (List Int)}{h:Nat}(f:Fresh sec h):∀ s∈sec,tagS s≤0:=by
 intro s hs
 obtain⟨a,ha,rfl⟩:=mem_getD hs
 obtain⟨c,hc,he⟩:=f.ex
 match a with
 | 0=>rw[he,(part1_none hc).2];exact Nat.le_refl _
 | a+1=>rw[f.zs _ (by omega) ha,tag_zsec];exact Nat.le_refl _
theorem Fresh.scan{sec:List (List Int)}{h:Nat}(f:Fresh sec h)(s:Nat)(hs:s<2):(scanL (none,[]) ((sec.drop (sFrom h s)).take h)).1=none:=by
 cases hg:(scanL (none,[]) ((sec.drop (sFrom h s)).take h)).1 with
 | none=>rfl
 | some g=>
  obtain⟨x,hx,hp⟩:=scan_gen hg
  have h1:=f.h1
  have hln:=f.ln
  have hsd:=sides (h:=h) hs
  have hx2:x=sec.getD (sFrom h s) []:=by
   have:=drop_getD sec (sFrom h s) h 0 (by omega) (by omega)
   rw[Nat.add_zero] at this
   rw[← this,List.getD_eq_getElem?_getD,← List.head?_eq_getElem?,hx]
   rfl
  rcases hsd with ⟨e,_⟩|⟨e,_⟩
  ·obtain⟨c,hc,he⟩:=f.ex
   rw[e,he] at hx2
   rw[hx2,(part1_none hc).1] at hp
   cases hp
  ·rw[e,f.zs h (by omega) (by omega)] at hx2
   rw[hx2,prsH_zsec] at hp
   cases hp
theorem openF_none{d:DiskD}(h:∀ s,s<2→(scanL (none,[]) ((d.sec.drop (sFrom (d.sec.length/2) s)).take (d.sec.length/2))).1=none):(openF d).1=none:=by
 unfold openF
 generalize d.sec.length/2=f at *
 show(fNext 1 (slotS d (sFrom f 1) f) (fNext 0 (slotS d (sFrom f 0) f) (none,_))).1=none
 rw[fNext_none (k:=0) (S:=slotS d (sFrom f 0) f) (h 0 (by omega)),fNext_none (k:=1) (S:=slotS d (sFrom f 1) f) (h 1 (by omega))]
theorem fresh_new(n:Nat)(hn:2≤n):Fresh (List.replicate n zsec) (n/2):=by
 refine⟨by omega,by rw[List.length_replicate];omega,⟨0,by omega,?_⟩,fun a _ ha=>?_⟩
 ·rw[part1_zero]
  rw[List.getD_eq_getElem?_getD,List.getElem?_replicate,if_pos (by omega)]
  rfl
 ·rw[List.length_replicate] at ha
  rw[List.getD_eq_getElem?_getD,List.getElem?_replicate,if_pos ha]
  rfl
section
variable {P : Program}
end
end
section
open Go.RowKit
attribute [local irreducible] wpQuiet wpAnyH
theorem open_new(n:Nat)(hn:2≤n):∃ r',(3≤r'∧r'≤6)∧openR (newD n)=(none,qD ((List.replicate n zsec).set 0 (rec 1 toll)) [] 3 r',some (⟨0,0,1,0,false⟩,[])):=by
 obtain⟨r',hr1,hr2,hw⟩:=wsD_q (sec:=List.replicate n zsec) (st:=1) (r:=1) (a:=0) (by decide) (by simp;omega) (rec 1 toll)
 refine⟨r',⟨by omega,by omega⟩,?_⟩
 have hf:=fresh_new n hn
 have hlen:(newD n).sec.length=n:=List.length_replicate
 unfold openR
 rw[if_neg (by omega),newD_q,syncA_q,syncS_q]
 show openS (qD (List.replicate n zsec) [] 1 1)=_
 have hl2:(qD (List.replicate n zsec) [] 1 1).sec.length=n:=List.length_replicate
 have hof:(openF (qD (List.replicate n zsec) [] 1 1)).1=none:=openF_none (fun s hs=>by rw[hl2];exact hf.scan s hs)
 have hla:lastN (qD (List.replicate n zsec) [] 1 1) (qD (List.replicate n zsec) [] 1 1).sec.length=0:=by
  have:=lastN_le (d:=qD (List.replicate n zsec) [] 1 1) rfl rfl 0 hf.tag _ (Nat.le_refl _)
  omega
 unfold openS
 rw[hof,hla]
 simp only[show ¬((0:Nat)=4294967295) by omega,if_false,Nat.zero_add]
 rw[wsA_q (by decide) (by simp;omega),hw]
 rfl
end
section
open Go.RowKit
theorem mapM_of{α β:Type}{f:α→Option β}{g:α→β}:∀ {L:List α},(∀ x∈L,f x=some (g x))→L.mapM f=some (L.map g)
 | [],_=>rfl
 | x :: L,h=>by
  rw[List.mapM_cons,h x (by simp),mapM_of (fun y hy=>h y (by simp[hy]))]
  rfl
theorem lits_u8(D:Nat)(n:Int)(h:0≤n∧n≤255):Tryz.prog.keyLits (D+1) 5 [.int .u8 n]=some [.int .u8 n]:=by
 unfold Program.keyLits
 rw[Tryz.underlying5]
 have:(Lit.int .u8 n).wf=true:=by simp[Lit.wf,IntKind.min,IntKind.max,IntKind.signed,IntKind.bits];omega
 simp[this]
end
section
set_option maxRecDepth 100000
open Go.RowKit
def dv(d:List Int):Value:=.agg (u8s d).toArray
def dk(d:List Int):Lit:=.string (keyBytes (d.map (Lit.int .u8)))
theorem arrKey:WideMaps.ArrKey Tryz.prog 26 5 32:=⟨Tryz.underlying26,by kernel_rfl,by kernel_rfl,by kernel_rfl⟩
theorem keyed:Maps.Keyed Tryz.prog 26:=Maps.Keyed.of_law arrKey.law
theorem mapM_at{α β:Type}{f:α→Option β}:∀ {L:List α} {r:List β},L.mapM f=some r→r.length=L.length∧∀(i:Nat) (hi:i<L.length),∃ y,r[i]? = some y∧f L[i]=some y
 | [],r,h=>by
  obtain rfl:r=[]:=by simpa using h.symm
  exact⟨rfl,fun i hi=>by simp at hi⟩
 | x :: L,r,h=>by
  rw[List.mapM_cons] at h
  cases hx:f x with
  | none=>rw[hx] at h;simp at h
  | some y=>
   cases hL:L.mapM f with
   | none=>rw[hx,hL] at h;simp at h
   | some r'=>
    rw[hx,hL] at h
    obtain rfl:y :: r'=r:=by simpa using h
    obtain⟨h1,h2⟩:=mapM_at hL
    refine⟨by simp[h1],fun i hi=>?_⟩
    cases i with
    | zero=>exact⟨y,rfl,hx⟩
    | succ i=>exact h2 i (by simpa using hi)
theorem lits_u8_inv(D:Nat)(c:List Value)(l:List Lit)(h:Tryz.prog.keyLits D 5 c=some l):∃ n:Int,(0≤n∧n≤255)∧c=[.int .u8 n]∧l=[.int .u8 n]:=by
 cases D with
 | zero=>simp[Program.keyLits] at h
 | succ D=>
  unfold Program.keyLits at h
  rw[Tryz.underlying5] at h
  rcases c with _|⟨v,_|⟨v2,c⟩⟩
  ·simp at h
  ·cases v <;> simp at h
   rename_i q n
   obtain⟨⟨rfl,hw⟩,rfl⟩:=h
   have hb:0≤n∧n≤255:=by
    have:=hw
    simp[Lit.wf,IntKind.min,IntKind.max,IntKind.signed,IntKind.bits] at this
    omega
   exact⟨n,hb,rfl,rfl⟩
  ·cases v <;> simp at h
theorem keyOf_mk{d:List Int}(h:DigOk d):keyOf Tryz.prog 26 (dv d)=some (dk d):=by
 have hkt:Tryz.prog.keyType 26=true:=by kernel_rfl
 have hc:Tryz.prog.cellsOf 26=32:=by kernel_rfl
 have hc1:Tryz.prog.cellsOf 5=1:=by kernel_rfl
 obtain⟨m,hm⟩:∃ m,Tryz.prog.types.size=m+1:=⟨Tryz.prog.types.size-1,by kernel_rfl⟩
 have hl:(u8s d).length=32:=by simp[u8s,h.len]
 have hf:(dv d).formed Tryz.prog 26=true:=by
  unfold dv Value.formed
  rw[Tryz.underlying26]
  simp[hc,hl]
 unfold keyOf
 rw[Tryz.underlying26]
 simp only[hkt,hf,Bool.and_self,if_true]
 have key:Tryz.prog.keyLits (Tryz.prog.types.size+1) 26 (u8s d)=some (d.map (Lit.int .u8)):=by
  unfold Program.keyLits
  rw[Tryz.underlying26]
  simp only[hc,hl,hc1,if_true,Nat.mul_one]
  rw[mapM_of (g:=fun i=>[Lit.int .u8 (d.getD i 0)]) (fun i hi=>?_)]
  ·simp only[Option.map_some,Option.some.injEq]
   have hfl:((List.range 32).map fun i=>[Lit.int .u8 (d.getD i 0)]).flatten=(List.range 32).map fun i=>Lit.int .u8 (d.getD i 0):=by
    rw[← List.flatMap_def,← List.map_eq_flatMap]
   rw[hfl]
   apply List.ext_getElem
   ·simp[h.len]
   ·intro i h1 h2
    have hi:i<32:=by simpa [h.len] using h2
    simp[show i<d.length by rw[h.len];exact hi]
  ·have hi:i<32:=by simpa using hi
   have hlt:i<d.length:=by rw[h.len];exact hi
   have e:((u8s d).drop i).take 1=[.int .u8 (d.getD i 0)]:=by
    have hlt':i<(u8s d).length:=by rw[hl];exact hi
    rw[List.drop_eq_getElem_cons hlt']
    simp[u8s,hlt]
   rw[e,hm]
   exact lits_u8 m _ (h.byte _ (by simp[hlt]))
 show((Tryz.prog.keyLits (Tryz.prog.types.size+1) 26 (u8s d).toArray.toList).map fun ls=>Lit.string (keyBytes ls))=_
 rw[List.toList_toArray,key]
 rfl
theorem keyOf_inv{v:Value}{kl:Lit}(h:keyOf Tryz.prog 26 v=some kl):∃ d,DigOk d∧v=dv d∧kl=dk d:=by
 have h0:=h
 have hc:Tryz.prog.cellsOf 26=32:=by kernel_rfl
 have hc1:Tryz.prog.cellsOf 5=1:=by kernel_rfl
 unfold keyOf at h
 rw[Tryz.underlying26] at h
 dsimp only at h
 split at h
 ·rename_i hh
  obtain⟨_,hf⟩:=(Bool.and_eq_true _ _).mp hh
  obtain⟨cs,rfl⟩:∃ cs,v = .agg cs:=by
   cases v <;> simp[Value.formed,Tryz.underlying26] at hf ⊢
  cases hl:Tryz.prog.keyLits (Tryz.prog.types.size+1) 26 (Value.agg cs).cells.toList with
  | none=>rw[hl] at h;simp at h
  | some ls=>
   have hcs:(Value.agg cs).cells.toList=cs.toList:=rfl
   rw[hcs] at hl
   unfold Program.keyLits at hl
   rw[Tryz.underlying26] at hl
   dsimp only at hl
   split at hl
   ·rename_i hlen
    rw[hc] at hlen
    rw[hc1] at hl
    cases hm:(List.range 32).mapM fun i=>Tryz.prog.keyLits Tryz.prog.types.size 5 ((cs.toList.drop (i*1)).take 1) with
    | none=>rw[hm] at hl;simp at hl
    | some r=>
     obtain⟨_,hat⟩:=mapM_at hm
     have hcell:∀(i:Nat) (hi:i<cs.toList.length),∃ n:Int,(0≤n∧n≤255)∧cs.toList[i] = .int .u8 n:=by
      intro i hi
      obtain⟨y,_,hy⟩:=hat i (by simpa [hlen] using hi)
      obtain⟨n,hn,hc2,_⟩:=lits_u8_inv _ _ _ hy
      rw[List.getElem_range,Nat.mul_one,List.drop_eq_getElem_cons hi] at hc2
      exact⟨n,hn,by simpa using hc2⟩
     obtain⟨d,hd,hdb⟩:∃ d:List Int,cs.toList=u8s d∧∀ b∈d,0≤b∧b≤255:=by
      have key:∀ l:List Value,(∀(i:Nat) (hi:i<l.length),∃ n:Int,(0≤n∧n≤255)∧l[i] = .int .u8 n)→∃ d:List Int,l=u8s d∧∀ b∈d,0≤b∧b≤255:=by
       intro l
       induction l with
       | nil=>exact fun _=>⟨[],rfl,fun b hb=>by simp at hb⟩
       | cons c l ih=>
        intro hl
        obtain⟨n,hn,hcn⟩:=hl 0 (by simp)
        have hcn:c = .int .u8 n:=hcn
        subst hcn
        obtain⟨d,rfl,hd⟩:=ih (fun i hi=>hl (i+1) (by simpa using hi))
        exact⟨n :: d,rfl,fun b hb=>by
         rcases List.mem_cons.1 hb with rfl|hb
         ·exact hn
         ·exact hd b hb⟩
      exact key _ hcell
     have hdo:DigOk d:=⟨by have:=congrArg List.length hd;simp[u8s] at this;rw[← this];simpa using hlen,hdb⟩
     have hv:Value.agg cs=dv d:=by unfold dv;rw[← hd]
     refine⟨d,hdo,hv,?_⟩
     rw[hv,keyOf_mk hdo] at h0
     exact(Option.some.inj h0).symm
   ·cases hl
 ·cases h
theorem dk_inj{d d':List Int}(h:DigOk d)(h':DigOk d')(e:dk d=dk d'):d=d':=by
 have hv:=keyed.inj (keyOf_mk h) (by rw[keyOf_mk h',e])
 have h1:(u8s d).toArray=(u8s d').toArray:=Value.agg.inj hv
 have h2:u8s d=u8s d':=by simpa using h1
 have key:∀ a b:List Int,u8s a=u8s b→a=b:=by
  intro a
  induction a with
  | nil=>intro b hb;cases b with
   | nil=>rfl
   | cons=>simp[u8s] at hb
  | cons x a ih=>intro b hb;cases b with
   | nil=>simp[u8s] at hb
   | cons y b=>
    simp only[u8s,List.map_cons,List.cons.injEq,Value.int.injEq,true_and] at hb
    obtain⟨rfl,hb⟩:=hb
    rw[ih b hb]
 exact key _ _ h2
theorem dk_key(d:List Int):WideAt.IsKeyLit (dk d):=trivial
end
section
set_option maxRecDepth 100000
open Go.RowKit
noncomputable def R64:Value→Option (DataW Unit×List MemPlace):=plainElem Tryz.prog 2
def Fits(D:DataW Unit)(f:List Int→Option Int)(c:Nat):Prop:=
 Maps.size D=c∧∀ d,DigOk d→match f d with
  | none=>Maps.has D (dk d)=false
  | some t=>isI64 t∧Maps.has D (dk d)=true∧∀ z,D.atKey (dk d) z = .lit (.int .i64 t)
def DM(w:World)(b n:Nat)(f:List Int→Option Int)(c:Nat):Prop:=∃ D,w.ownsMap Tryz.prog 26 R64 b n D∧Fits D f c
def upd(f:List Int→Option Int)(d:List Int)(t:Int):List Int→Option Int:=fun x=>if x=d then some t else f x
def cut(f:List Int→Option Int)(d:List Int):List Int→Option Int:=fun x=>if x=d then none else f x
theorem DM.le{w:World}{b n c:Nat}{f:List Int→Option Int}(h:DM w b n f c):c≤n:=by
 obtain⟨D,h,hs,_⟩:=h
 rw[← hs];exact h.size_le
theorem DM.i64{w:World}{b n c:Nat}{f:List Int→Option Int}(h:DM w b n f c){d:List Int}{t:Int}(hd:DigOk d)(hf:f d=some t):isI64 t:=by
 obtain⟨D,_,_,h⟩:=h
 have:=h d hd
 rw[hf] at this
 exact this.1
theorem DM.lt{w:World}{b n c:Nat}{f:List Int→Option Int}(h:DM w b n f c):b<w.heap.size:=by
 obtain⟨D,⟨es,clock,hb,_⟩,_⟩:=h
 rcases Nat.lt_or_ge b w.heap.size with hlt|hge
 ·exact hlt
 ·rw[Array.getElem?_eq_none hge] at hb;cases hb
theorem DM.of_block{w w':World}{b n c:Nat}{f:List Int→Option Int}(h:DM w b n f c)(e:w'.heap[b]? = w.heap[b]?):DM w' b n f c:=by
 obtain⟨D,⟨es,clock,hb,r⟩,hf⟩:=h
 exact⟨D,⟨es,clock,e.trans hb,r⟩,hf⟩
theorem DM.keep{w w':World}{b n c:Nat}{f:List Int→Option Int}(h:DM w b n f c)(hb:Below w.heap.size w w'):DM w' b n f c:=h.of_block (hb.block b h.lt)
theorem DM.mono{w:World}{b n m c:Nat}{f:List Int→Option Int}(h:DM w b n f c)(hm:n≤m):DM w b m f c:=by
 obtain⟨D,⟨es,clock,hb,h1,h2,h3⟩,hf⟩:=h
 exact⟨D,⟨es,clock,hb,h1,Nat.le_trans h2 hm,h3⟩,hf⟩
theorem DM.made(w:World):DM (w.alloc (.map #[] 0)) w.heap.size 0 (fun _=>none) 0:=
 ⟨.map [],World.ownsMap_made _ _ _ _,rfl,fun _ _=>rfl⟩
theorem Fits.put{D:DataW Unit}{f:List Int→Option Int}{c:Nat}(h:Fits D f c)(hD:Maps.Tidy D){d:List Int}(hd:DigOk d){t:Int}(ht:isI64 t):
  Fits (D.put (dk d) (.lit (.int .i64 t))) (upd f d t) (if (f d).isSome then c else c+1):=by
 obtain⟨hs,hf⟩:=h
 have hhas:Maps.has D (dk d)=(f d).isSome:=by
  have:=hf d hd
  cases hfd:f d with
  | none=>rw[hfd] at this;exact this
  | some t=>rw[hfd] at this;exact this.2.1
 refine⟨by rw[Maps.size_put hD,hhas,hs],fun x hx=>?_⟩
 unfold upd
 by_cases hxd:x=d
 ·subst hxd
  rw[if_pos rfl]
  exact⟨ht,Maps.has_put_same hD.isMap (dk_key x) _,fun z=>Maps.atKey_put_same hD.isMap (dk_key x) _ z⟩
 ·rw[if_neg hxd]
  have hne:dk x≠dk d:=fun e=>hxd (dk_inj hx hd e)
  have:=hf x hx
  cases hfx:f x with
  | none=>rw[hfx] at this;exact(Maps.has_put_other hne _).trans this
  | some t'=>
   rw[hfx] at this
   exact⟨this.1,(Maps.has_put_other hne _).trans this.2.1,fun z=>(Maps.atKey_put_other hne _ z).trans (this.2.2 z)⟩
theorem Fits.del{D:DataW Unit}{f:List Int→Option Int}{c:Nat}(h:Fits D f c)(hD:Maps.Tidy D){d:List Int}(hd:DigOk d):
  ∃ c',Fits (D.del (dk d)) (cut f d) c'∧c'+(if (f d).isSome then 1 else 0)=c:=by
 obtain⟨hs,hf⟩:=h
 have hhas:Maps.has D (dk d)=(f d).isSome:=by
  have:=hf d hd
  cases hfd:f d with
  | none=>rw[hfd] at this;exact this
  | some t=>rw[hfd] at this;exact this.2.1
 refine⟨_,⟨rfl,fun x hx=>?_⟩,by rw[← hhas,Maps.size_del hD,hs]⟩
 unfold cut
 by_cases hxd:x=d
 ·subst hxd
  rw[if_pos rfl]
  exact Maps.has_del_same
 ·rw[if_neg hxd]
  have hne:dk x≠dk d:=fun e=>hxd (dk_inj hx hd e)
  have:=hf x hx
  cases hfx:f x with
  | none=>rw[hfx] at this;exact(Maps.has_del_other hne).trans this
  | some t'=>
   rw[hfx] at this
   exact⟨this.1,(Maps.has_del_other hne).trans this.2.1,fun z=>(Maps.atKey_del_other hne z).trans (this.2.2 z)⟩
theorem Fits.has{D:DataW Unit}{f:List Int→Option Int}{c:Nat}(h:Fits D f c){d:List Int}(hd:DigOk d):Maps.has D (dk d)=(f d).isSome:=by
 have:=h.2 d hd
 cases hfd:f d with
 | none=>rw[hfd] at this;exact this
 | some t=>rw[hfd] at this;exact this.2.1
theorem DM.look{w:World}{b n c:Nat}{f:List Int→Option Int}{tM:TypeId}(ht:Tryz.prog.underlying tM=some (.map 26 2))(h:DM w b n f c){d:List Int}(hd:DigOk d):
  (Instr.lookup tM (.map (some b)) (.agg (u8s d).toArray) true).run Tryz.prog w = .ok (.tuple #[.int .i64 ((f d).getD 0),.bool (f d).isSome]) w:=by
 obtain⟨D,hown,hf⟩:=h
 obtain⟨v,ps,hrun,hv⟩:=hown.look_ok keyed ht (z:=.int .i64 0) (by kernel_rfl) (zd:=.lit (.int .i64 0)) (zp:=[]) (plainElem_int Tryz.underlying2 (by decide)) (keyOf_mk hd)
 obtain⟨x,rfl,hx,_⟩:=plainElem_int_inv Tryz.underlying2 hv
 have hx:=congrArg Prod.fst hx
 dsimp only at hx
 rw[hf.has hd] at hrun
 have:=hf.2 d hd
 cases hfd:f d with
 | none=>
  rw[hfd] at this hrun
  rw[Maps.atKey_of_not_has this] at hx
  obtain rfl:x=0:=by simpa using hx.symm
  exact hrun
 | some t=>
  rw[hfd] at this hrun
  rw[this.2.2] at hx
  obtain rfl:x=t:=by simpa using hx.symm
  exact hrun
theorem DM.put_run{w:World}{b n c:Nat}{f:List Int→Option Int}{tM:TypeId}(ht:Tryz.prog.underlying tM=some (.map 26 2))(h:DM w b n f c){d:List Int}(hd:DigOk d){t:Int}(hti:isI64 t)(hn:n<maxLen):
  ∃ w',(Instr.mapUpdate tM (.map (some b)) (.agg (u8s d).toArray) (.int .i64 t)).run Tryz.prog w = .ok () w'∧DM w' b (n+1) (upd f d t) (if (f d).isSome then c else c+1)∧w.grownBy w' (some b):=by
 obtain⟨D,hown,hf⟩:=h
 obtain⟨w',hrun,h',hg'⟩:=hown.update keyed ht hn (keyOf_mk hd) (val:=.int .i64 t) (d:=.lit (.int .i64 t)) (ps:=[]) (plainElem_int Tryz.underlying2 (wf_i64 hti))
 exact⟨w',hrun,⟨_,h',hf.put (hown.tidy keyed) hd hti⟩,hg'⟩
def DR(w:World)(b r n:Nat)(f:List Int→Option Int)(c:Nat)(left:List Int→Bool)(cnt:Nat):Prop:=
 ∃ D l,w.ranges Tryz.prog 26 R64 b r n D l cnt∧Fits D f c∧∀ d,DigOk d→l (dk d)=left d
theorem DR.owns{w:World}{b r n c cnt:Nat}{f:List Int→Option Int}{left:List Int→Bool}(h:DR w b r n f c left cnt):DM w b n f c:=by
 obtain⟨D,l,h,hf,_⟩:=h
 exact⟨D,h.owns,hf⟩
theorem DR.of_blocks{w w':World}{b r n c cnt:Nat}{f:List Int→Option Int}{left:List Int→Bool}(h:DR w b r n f c left cnt)(e:w'.heap[b]? = w.heap[b]?)(e':w'.heap[r]? = w.heap[r]?):DR w' b r n f c left cnt:=by
 obtain⟨D,l,⟨es,clock,since,seen,c0,hb,h1,h2,h3,hr,h4⟩,hf⟩:=h
 exact⟨D,l,⟨es,clock,since,seen,c0,e.trans hb,h1,h2,h3,e'.trans hr,h4⟩,hf⟩
theorem DR.lt{w:World}{b r n c cnt:Nat}{f:List Int→Option Int}{left:List Int→Bool}(h:DR w b r n f c left cnt):r<w.heap.size∧r≠b:=by
 obtain⟨D,l,h,_⟩:=h
 exact⟨h.lt,h.ne⟩
theorem DR.keep{w w':World}{b r n c cnt:Nat}{f:List Int→Option Int}{left:List Int→Bool}(h:DR w b r n f c left cnt)(hb:Below w.heap.size w w'):DR w' b r n f c left cnt:=
 h.of_blocks (hb.block b h.owns.lt) (hb.block r h.lt.1)
theorem DR.left_eq{w:World}{b r n c cnt:Nat}{f:List Int→Option Int}{left:List Int→Bool}(h:DR w b r n f c left cnt):w.rangeLeft b r=cnt:=by
 obtain⟨D,l,h,_⟩:=h
 exact h.left_eq
theorem DM.congr{w:World}{b n c:Nat}{f f':List Int→Option Int}(h:DM w b n f c)(e:∀ d,DigOk d→f d=f' d):DM w b n f' c:=by
 obtain⟨D,h,hs,hf⟩:=h
 exact⟨D,h,hs,fun d hd=>by rw[← e d hd];exact hf d hd⟩
section
variable {ops : Array Oper} {rest : List Oper} {o : Oper} {a : Act} {w : World} {Q : Exit → Act → World → Prop} {tM : TypeId} (ht : Tryz.prog.underlying tM = some (.map 26 2))
include ht
theorem dRange(hg:o.guard=none)(m:Operand)(hop:o.op=Op.range tM m){b n c:Nat}{f:List Int→Option Int}(hm:a.eval m = .map (some b))(h:DM w b n f c)
  (hK:∀ w',DR w' b w.heap.size n f c (fun d=>(f d).isSome) c→w.grownBy w' none→w'.heap.size=w.heap.size+1→wpList Tryz.prog ops Q rest (a.put o.dst (.pointer (some ⟨w.heap.size,0,none⟩))) w'):wpList Tryz.prog ops Q (o :: rest) a w:=by
 obtain⟨D,hown,hf⟩:=h
 refine wpList_range_own w hg m tM hop 26 2 keyed ht R64 b n D hm hown fun w' h' hg' hs'=>?_
 rw[hf.1] at h'
 exact hK w' ⟨D,_,h',hf,fun d hd=>hf.has hd⟩ hg' hs'
omit ht in
theorem dNext(hg:o.guard=none)(it:Operand)(hop:o.op=Op.next it false){b r n c cnt:Nat}{f:List Int→Option Int}{left:List Int→Bool}(hit:a.eval it = .pointer (some ⟨r,0,none⟩))(h:DR w b r n f c left cnt)
  (hDone:cnt=0→(∀ d,DigOk d→left d=false)→wpList Tryz.prog ops Q rest (a.put o.dst (.tuple #[.bool false])) w)
  (hMore:∀(d:List Int) (t:Int) (w':World) (cnt':Nat),DigOk d→isI64 t→left d=true→f d=some t→DR w' b r n f c (fun x=>left x && !(x == d)) cnt'→cnt'<cnt→w.grownBy w' (some r)→w'.heap.size=w.heap.size →
   (Instr.entry (.pointer (some ⟨r,0,none⟩))).run Tryz.prog w' = .ok (.tuple #[.agg (u8s d).toArray,.int .i64 t]) w'→wpList Tryz.prog ops Q rest (a.put o.dst (.tuple #[.bool true,.agg (u8s d).toArray,.int .i64 t])) w'):wpList Tryz.prog ops Q (o :: rest) a w:=by
 obtain⟨D,l,hr,hf,hl⟩:=h
 refine wpList_next_ranges w hg it hop 26 keyed R64 dv (Value.int .i64) (fun key kl hk=>?_) (fun v y hv=>?_) b r n D l cnt hit hr (fun h0 hall=>hDone h0 fun d hd=>by rw[← hl d hd];exact hall _) fun d t kl y w' cnt' hkey hlk hv hat hr' hlt hg' hs' hen=>?_
 ·obtain⟨d,_,rfl,_⟩:=keyOf_inv hk
  exact⟨d,rfl⟩
 ·obtain⟨t,rfl,_⟩:=plainElem_int_inv Tryz.underlying2 hv
  exact⟨t,rfl⟩
 ·obtain⟨d',hd,hdd,rfl⟩:=keyOf_inv hkey
  obtain rfl:d=d':=by
   have h1:(u8s d).toArray=(u8s d').toArray:=Value.agg.inj hdd
   have h2:u8s d=u8s d':=by simpa using h1
   have:=congrArg (List.map fun v:Value=>match v with | .int _ n=>n|_=>0) h2
   simpa [u8s,Function.comp_def] using this
  obtain⟨t',ht',hy,hw⟩:=plainElem_int_inv Tryz.underlying2 hv
  obtain rfl:t=t':=by simpa using ht'
  subst hy
  have hfd:f d=some t:=by
   have:=hf.2 d hd
   cases hfd:f d with
   | none=>
    rw[hfd] at this
    have h1:=hat .nil
    rw[Maps.atKey_of_not_has this] at h1
    cases h1
   | some t'=>
    rw[hfd] at this
    have h1:=(hat .nil).symm.trans (this.2.2 .nil)
    obtain rfl:t=t':=by simpa using h1
    rfl
  refine hMore d t w' cnt' hd (isI64_of hw) (by rw[← hl d hd];exact hlk) hfd ⟨D,_,hr',hf,fun x hx=>?_⟩ hlt hg' hs' hen
  show(l (dk x) && !(dk x).sameKey (dk d))=_
  rw[hl x hx]
  by_cases hxd:x=d
  ·subst hxd
   simp[WideAt.sameKey_self (dk_key x)]
  ·rw[Maps.sameKey_ne (fun e=>hxd (dk_inj hx hd e))]
   simp[hxd]
theorem stepDel{K:Act→World→Prop}{E:Prop}(m x:Operand)(hop:o.op=Op.call { callee:=Callee.builtin Builtin.delete,args:=#[m,x],argTypes:=#[tM,26] })(hw:Region.wanted o (yielded ops a.tmps)=true){b r n c cnt:Nat}{f:List Int→Option Int}{left:List Int→Bool}
  (hm:a.eval m = .map (some b)) (h:DR w b r n f c left cnt) {d:List Int} (hd:DigOk d) (hx:a.eval x = .agg (u8s d).toArray)
  (hK:∀ w' c' cnt',DR w' b r n (cut f d) c' (fun x=>left x && !(x == d)) cnt'→c'+(if (f d).isSome then 1 else 0)=c→cnt'≤cnt→w.mapTurned w' b→K (a.put o.dst (.tuple #[])) w'):
  if Region.wanted o (yielded ops a.tmps)=true then Oper.wp Tryz.prog o a w K Q else E:=by
 rw[if_pos hw]
 obtain⟨D,l,hr,hf,hl⟩:=h
 obtain⟨w',cnt',hrun,hr',hle,hturn⟩:=hr.drop keyed ht (keyOf_mk hd) o.type
 obtain⟨c',hf',hc'⟩:=hf.del (hr.owns.tidy keyed) hd
 have hx':a.eval x=dv d:=hx
 unfold Oper.wp
 simp[execOp,hop,resolve,invoke,builtin,hm,hx',hrun,Result.andThen]
 refine hK w' c' cnt' ⟨_,_,hr',hf',fun x hx=>?_⟩ hc' hle hturn
 show(l (dk x) && !(dk x).sameKey (dk d))=_
 rw[hl x hx]
 by_cases hxd:x=d
 ·subst hxd
  simp[WideAt.sameKey_self (dk_key x)]
 ·rw[Maps.sameKey_ne (fun e=>hxd (dk_inj hx hd e))]
  simp[hxd]
end
end
section
set_option maxRecDepth 100000
open Go.RowKit
def IX(w:World)(g b n:Nat)(f:List Int→Option Int)(c:Nat):Prop:=w.cell? ⟨g,0,none⟩=some (.map (some b))∧g≠b∧DM w b n f c
theorem IX.keep{w w':World}{g b n c:Nat}{f:List Int→Option Int}(h:IX w g b n f c)(hb:Below w.heap.size w w'):IX w' g b n f c:=⟨Below.cell' hb h.1,h.2.1,h.2.2.keep hb⟩
theorem IX.mono{w:World}{g b n m c:Nat}{f:List Int→Option Int}(h:IX w g b n f c)(hm:n≤m):IX w g b m f c:=⟨h.1,h.2.1,h.2.2.mono hm⟩
def old?(f:List Int→Option Int)(d:List Int)(t:Int):Bool:=(f d).isSome && decide (t≤(f d).getD 0)
def putF(f:List Int→Option Int)(d:List Int)(t:Int):List Int→Option Int:=if old? f d t then f else upd f d t
def putC(f:List Int→Option Int)(d:List Int)(c:Nat):Nat:=if (f d).isSome then c else c+1
theorem put_any(g b n c:Nat)(f:List Int→Option Int)(d:List Int)(t:Int)(w:World)(h:IX w g b n f c)(hd:DigOk d)(ht:isI64 t)(hn:n<maxLen):
  Calls Tryz.prog 206 #[.pointer (some ⟨g,0,none⟩),.agg (entC d t).toArray] w fun e w'=>e = .returned (.bool (!old? f d t))∧IX w' g b (n+1) (putF f d t) (putC f d c)∧Off b w w':=by
 go_enter Tryz.func206,Tryz.ntmps206
 have hlen:=entC_length hd t
 have h32:(u8s d).length=32:=by simp[u8s,hd.len]
 obtain⟨hg,hgb,hm⟩:=h
 have hglt:=cell_lt hg
 have hblt:=hm.lt
 have hbA:Below w.heap.size w (w.alloc (.cells (entC d t).toArray 172)):=(by repeat (first|exact Below.refl _ _|assumption|refine bdrewN ?_ _|refine Below.setCell ?_ (by first|exact Nat.le_refl _|assumption|omega|(simp <;> omega)) _|refine Below.alloc ?_ (by first|exact Nat.le_refl _|assumption|omega|(simp <;> omega)) _))
 have hB:=Blk.new w 172 (entC d t).toArray
 have hsA:(w.alloc (.cells (entC d t).toArray 172)).heap.size=w.heap.size+1:=by simp
 have hg1:=Below.cell' hbA hg
 have hm1:=hm.keep hbA
 have hh1:=hbA.block b hblt
 go_wp2_with fail
 obtain⟨w1,hw1⟩:∃ w1,w1=w.alloc (.cells (entC d t).toArray 172):=⟨_,rfl⟩
 rw[← hw1] at hbA hB hg1 hm1 hh1 hsA ⊢
 clear hw1
 have hrd:w1.rangeAt w.heap.size 0 (u8s d):=fun j u hj=>by
  rw[Nat.zero_add,hB.cell j]
  have hlt:=(List.getElem?_eq_some_iff.1 hj).1
  simp only[List.getElem?_toArray,entC]
  rw[List.getElem?_append_left hlt]
  exact hj
 have htc:w1.cell? ⟨w.heap.size,32,none⟩=some (.int .i64 t):=by
  rw[hB.cell 32]
  simp only[List.getElem?_toArray,entC]
  rw[List.getElem?_append_right (by omega),h32]
  rfl
 have hlook:=fun(w':World) (hw':w'.heap[b]? = w.heap[b]?)=>(hm.of_block hw').look (tM:=292) Tryz.underlying292 hd
 have hud:=Tryz.underlying26
 have hui:(Tryz.prog.info? 26).map (·.size)=some (u8s d).length:=by rw[h32];kernel_rfl
 go_region_held3 (fun w'=>w'.cell? ⟨g,0,none⟩=some (.map (some b))∧w'.rangeAt w.heap.size 0 (u8s d)∧w'.cell? ⟨w.heap.size,32,none⟩=some (.int .i64 t)∧w'.heap[b]? = w.heap[b]?∧Below w1.heap.size w1 w')
  (first
   | (refine⟨by assumption,by assumption,by assumption,by assumption,(Below.refl _ _).drew⟩)
   | (go_split_ands;exact⟨by assumption,by assumption,by assumption,by assumption,by assumption⟩)
   | go_keep)
  (fail)
 have hm2:DM w1.drew b n f c:=hm1.of_block rfl
 have hb2:Below w.heap.size w w1.drew:=hbA.drew
 have hg2:w1.drew.cell? ⟨g,0,none⟩=some (.map (some b)):=hg1
 have htc2:w1.drew.cell? ⟨w.heap.size,32,none⟩=some (.int .i64 t):=htc
 have hrd2:w1.drew.rangeAt w.heap.size 0 (u8s d):=hrd
 obtain⟨w2,hw2⟩:∃ w2,w2=w1.drew:=⟨_,rfl⟩
 rw[← hw2] at hm2 hb2 hg2 htc2 hrd2 ⊢
 rename_i hH
 clear hlook hH hw2 hrd htc hB hg1 hm1 hh1 hbA hsA
 rcases Bool.eq_false_or_eq_true (old? f d t) with hold|hold
 ·have ho:=hold
  unfold old? at ho
  obtain⟨t1,t2⟩:=(Bool.and_eq_true _ _).mp ho
  have hpf:putF f d t=f:=by unfold putF;rw[if_pos hold]
  have hpc:putC f d c=c:=by unfold putC;rw[if_pos t1]
  have HP:=Lib.hid hpf
  have HC:=Lib.hid hpc
  have HO:=Lib.hid hold
  clear hpf hpc hold ho hui hud
  go_wp2_with fail
  go_ret
  rw[HP.out,HC.out,HO.out]
  exact⟨rfl,⟨hg2,hgb,hm2.mono (Nat.le_succ n)⟩,Off.of_below hb2⟩
 ·have hpf:putF f d t=upd f d t:=by unfold putF;rw[if_neg (by rw[hold];simp)]
  obtain⟨w3,hrun,hm3,hg3⟩:=(show DM w2.drew b n f c from hm2.of_block rfl).put_run (tM:=292) Tryz.underlying292 hd ht hn
  have hoff:Off b w2.drew w3:=Off.of_grown hg3
  have hb2d:Below w.heap.size w w2.drew:=hb2.drew
  have k1:w3.cell? ⟨g,0,none⟩=some (.map (some b)):=hoff.cell (show w2.drew.cell? ⟨g,0,none⟩=some (.map (some b)) from hg2) hgb
  have k2:w3.cell? ⟨w.heap.size,32,none⟩=some (.int .i64 t):=hoff.cell (show w2.drew.cell? ⟨w.heap.size,32,none⟩=some (.int .i64 t) from htc2) (by show w.heap.size≠b;omega)
  have k3:w3.rangeAt w.heap.size 0 (u8s d):=fun j u hj=>hoff.cell (show w2.drew.cell? ⟨w.heap.size,0+j,none⟩=some u from hrd2 j u hj) (by show w.heap.size≠b;omega)
  have HP:=Lib.hid hpf
  have HO:=Lib.hid hold
  have hcase:(f d).isSome=false∨(f d).isSome=true∧decide (t≤(f d).getD 0)=false:=by
   unfold old? at hold
   cases h:(f d).isSome
   ·exact .inl rfl
   ·rw[h] at hold;exact .inr ⟨rfl,by simpa using hold⟩
  have HM:=Lib.hid hm3
  have HF:=Lib.hid ((Off.of_below hb2d).trans hoff)
  clear hpf hold hm3 hg3 hoff hb2d hm2 hb2
  rcases hcase with t1|⟨t1,t2⟩
  all_goals
   go_wp2_with fail
   go_region_held3 (fun w'=>w'.cell? ⟨g,0,none⟩=some (.map (some b))∧w'.rangeAt w.heap.size 0 (u8s d)∧w'.cell? ⟨w.heap.size,32,none⟩=some (.int .i64 t))
    (first
     | (refine⟨by assumption,by assumption,by assumption⟩)
     | (go_split_ands;exact⟨by assumption,by assumption,by assumption⟩)
     | go_keep)
    (fail)
   go_wp2_with fail
   go_ret
   rw[HP.out,HO.out]
   exact⟨rfl,⟨k1,hgb,HM.out⟩,HF.out⟩
end
section
set_option maxRecDepth 100000
open Go.RowKit
end
end Go.Proofs.YtiaigidbcljblaaGreatDoor
