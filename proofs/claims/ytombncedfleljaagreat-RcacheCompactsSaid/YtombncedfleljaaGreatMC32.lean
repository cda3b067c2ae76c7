import Derived.DeepKeys
import Derived.WideKeyArr
import Derived.DeepKeys2
import Derived.Maps.RangeWalk
import Derived.Lib.Bytealg
import Derived.Lib.BytesEntry
import Derived.Test.YtombncedfleljaaGreatMC6
set_option linter.unusedSimpArgs false
set_option maxRecDepth 100000
set_option maxHeartbeats 40000000
namespace Go.Proofs.YtombncedfleljaaGreat
section
open Go.RowKit
theorem xD{α β:Type}{f:α→Option β}{g:α→β}:∀ {L:List α},(∀ x∈L,f x=some (g x))→L.mapM f=some (L.map g)
 | [],_=>rfl
 | x :: L,h=>by
  rw[List.mapM_cons,h x (by simp),xD (fun y hy=>h y (by simp[hy]))];rfl
theorem CX(D:Nat)(n:Int)(h:0≤n∧n≤255):Tryz.prog.keyLits (D+1) 5 [.int .u8 n]=some [.int .u8 n]:=by
 unfold Program.keyLits;rw[Tryz.underlying5];have:(Lit.int .u8 n).wf=true:=by simp[Lit.wf,IntKind.min,IntKind.max,IntKind.signed,IntKind.bits];omega
 simp[this]
theorem sC(D:Nat){d:List Int}(h:DigOk d):Tryz.prog.keyLits (D+2) 33 (u8s d)=some (d.map (Lit.int .u8)):=by
 have hc:Tryz.prog.cellsOf 33=32:=by kernel_rfl
 have hc1:Tryz.prog.cellsOf 5=1:=by kernel_rfl
 have hl:(u8s d).length=32:=by simp[u8s,h.len]
 unfold Program.keyLits;rw[Tryz.underlying33];simp only[hc,hl,hc1,if_true,Nat.mul_one];rw[xD (g:=fun i=>[Lit.int .u8 (d.getD i 0)]) (fun i hi=>?_)]
 ·simp only[Option.map_some,Option.some.injEq];have hfl:((List.range 32).map fun i=>[Lit.int .u8 (d.getD i 0)]).flatten=(List.range 32).map fun i=>Lit.int .u8 (d.getD i 0):=by
   rw[← List.flatMap_def,← List.map_eq_flatMap]
  rw[hfl];apply List.ext_getElem
  ·simp[h.len]
  ·intro i h1 h2;have hi:i<32:=by simpa [h.len] using h2
   simp[show i<d.length by rw[h.len];exact hi]
 ·have hi:i<32:=by simpa using hi
  have hlt:i<d.length:=by rw[h.len];exact hi
  have e:((u8s d).drop i).take 1=[.int .u8 (d.getD i 0)]:=by
   have hlt':i<(u8s d).length:=by rw[hl];exact hi
   rw[List.drop_eq_getElem_cons hlt'];simp[u8s,hlt]
  rw[e];exact CX D _ (h.byte _ (by simp[hlt]))
theorem y4{p:List Int×Int}(hp:EntOk p):Tryz.prog.keyLits 3 35 (aC p)=some (p.1.map (Lit.int .u8)++[Lit.int .i64 p.2]):=by
 have hc:Tryz.prog.cellsOf 35=33:=by kernel_rfl
 have hc1:Tryz.prog.cellsOf 33=32:=by kernel_rfl
 have hc2:Tryz.prog.cellsOf 2=1:=by kernel_rfl
 have hl:=aH p hp;have h32:(u8s p.1).length=32:=by simp[u8s,hp.dig.len]
 have e1:(aC p).take 32=u8s p.1:=by unfold aC cY;rw[List.take_append_of_le_length (by omega),List.take_of_length_le (by omega)]
 have e2:((aC p).drop 32).take 1=[.int .i64 p.2]:=by unfold aC cY;rw[List.drop_append_of_le_length (by omega),List.drop_of_length_le (by omega)];rfl
 have k2:Tryz.prog.keyLits 2 2 [.int .i64 p.2]=some [Lit.int .i64 p.2]:=by
  unfold Program.keyLits;rw[Tryz.underlying2];simp[zV hp.exp]
 unfold Program.keyLits;rw[Tryz.underlying35];simp[hc,hl,hc1,hc2,e1,e2,sC 0 hp.dig,k2]
theorem y5{p q:List Int×Int}(h:p.1.map (Lit.int .u8)++[Lit.int .i64 p.2]=q.1.map (Lit.int .u8)++[Lit.int .i64 q.2]):p=q:=by
 have h1:=List.append_inj' h rfl;have h2:p.1=q.1:=by
  have key:∀ a b:List Int,a.map (Lit.int .u8)=b.map (Lit.int .u8)→a=b:=by
   intro a;induction a with
   | nil=>intro b hb;cases b with
    | nil=>rfl
    | cons=>simp at hb
   | cons x a ih=>intro b hb;cases b with
    | nil=>simp at hb
    | cons y b=>
     simp only[List.map_cons,List.cons.injEq,Lit.int.injEq,true_and] at hb;rw[hb.1,ih b hb.2]
  exact key _ _ h1.1
 have h3:p.2=q.2:=by simpa using h1.2
 exact Prod.ext h2 h3
theorem J0{p q:List Int×Int}(hp:EntOk p)(hq:EntOk q)(w:World):(Op.equalIn 10000 35 (.agg (aC p).toArray) (.agg (aC q).toArray)).run Tryz.prog w = .ok (decide (p=q)) w:=by
 have hu:=Tryz.underlying35;have hc:Tryz.prog.cellsOf 35=33:=by kernel_rfl
 have form:∀ x:List Int×Int,EntOk x→Value.formed Tryz.prog 35 (.agg (aC x).toArray)=true:=fun x hx=>by
  unfold Value.formed;rw[hu];simp[hc,aH x hx]
 have cells:∀ x:List Int×Int,(Value.agg (aC x).toArray).cells.toList=aC x:=fun x=>by
  show(aC x).toArray.toList=_;simp
 obtain⟨r,hr,hiff⟩:=run_equalIn_deep (P:=Tryz.prog) 9997 3 35 (by kernel_rfl) w 3 3 (.agg (aC p).toArray) (.agg (aC q).toArray) _ _ (form p hp) (form q hq) (by rw[cells];exact y4 hp) (by rw[cells];exact y4 hq);rw[hr];congr 1;by_cases h:p=q
 ·subst h;simpa using hiff.2 rfl
 ·have:¬r=true:=fun e=>h (y5 (hiff.1 e))
  simpa [h] using this
end
section
set_option maxRecDepth 100000
open Go.RowKit
def dv(d:List Int):Value:=.agg (u8s d).toArray
def dk(d:List Int):Lit:=.string (keyBytes (d.map (Lit.int .u8)))
theorem arrKey:WideMaps.ArrKey Tryz.prog 33 5 32:=⟨Tryz.underlying33,by kernel_rfl,by kernel_rfl,by kernel_rfl⟩
theorem keyed:Maps.Keyed Tryz.prog 33:=Maps.Keyed.of_law arrKey.law
theorem CY{α β:Type}{f:α→Option β}:∀ {L:List α} {r:List β},L.mapM f=some r→r.length=L.length∧∀(i:Nat) (hi:i<L.length),∃ y,r[i]? = some y∧f L[i]=some y
 | [],r,h=>by
  obtain rfl:r=[]:=by simpa using h.symm
  exact⟨rfl,fun i hi=>by simp at hi⟩
 | x :: L,r,h=>by
  rw[List.mapM_cons] at h;cases hx:f x with
  | none=>rw[hx] at h;simp at h
  | some y=>
   cases hL:L.mapM f with
   | none=>rw[hx,hL] at h;simp at h
   | some r'=>
    rw[hx,hL] at h;obtain rfl:y :: r'=r:=by simpa using h
    obtain⟨h1,h2⟩:=CY hL;refine⟨by simp[h1],fun i hi=>?_⟩;cases i with
    | zero=>exact⟨y,rfl,hx⟩
    | succ i=>exact h2 i (by simpa using hi)
theorem y6(D:Nat)(c:List Value)(l:List Lit)(h:Tryz.prog.keyLits D 5 c=some l):∃ n:Int,(0≤n∧n≤255)∧c=[.int .u8 n]∧l=[.int .u8 n]:=by
 cases D with
 | zero=>simp[Program.keyLits] at h
 | succ D=>
  unfold Program.keyLits at h;rw[Tryz.underlying5] at h;rcases c with _|⟨v,_|⟨v2,c⟩⟩
  ·simp at h
  ·cases v <;> simp at h
   rename_i q n;obtain⟨⟨rfl,hw⟩,rfl⟩:=h;have hb:0≤n∧n≤255:=by
    have:=hw;simp[Lit.wf,IntKind.min,IntKind.max,IntKind.signed,IntKind.bits] at this;omega
   exact⟨n,hb,rfl,rfl⟩
  ·cases v <;> simp at h
theorem iK{d:List Int}(h:DigOk d):keyOf Tryz.prog 33 (dv d)=some (dk d):=by
 have hkt:Tryz.prog.keyType 33=true:=by kernel_rfl
 have hc:Tryz.prog.cellsOf 33=32:=by kernel_rfl
 have hc1:Tryz.prog.cellsOf 5=1:=by kernel_rfl
 obtain⟨m,hm⟩:∃ m,Tryz.prog.types.size=m+1:=⟨Tryz.prog.types.size-1,by kernel_rfl⟩;have hl:(u8s d).length=32:=by simp[u8s,h.len]
 have hf:(dv d).formed Tryz.prog 33=true:=by
  unfold dv Value.formed;rw[Tryz.underlying33];simp[hc,hl]
 unfold keyOf;rw[Tryz.underlying33];simp only[hkt,hf,Bool.and_self,if_true];have key:Tryz.prog.keyLits (Tryz.prog.types.size+1) 33 (u8s d)=some (d.map (Lit.int .u8)):=by
  unfold Program.keyLits;rw[Tryz.underlying33];simp only[hc,hl,hc1,if_true,Nat.mul_one];rw[xD (g:=fun i=>[Lit.int .u8 (d.getD i 0)]) (fun i hi=>?_)]
  ·simp only[Option.map_some,Option.some.injEq];have hfl:((List.range 32).map fun i=>[Lit.int .u8 (d.getD i 0)]).flatten=(List.range 32).map fun i=>Lit.int .u8 (d.getD i 0):=by
    rw[← List.flatMap_def,← List.map_eq_flatMap]
   rw[hfl];apply List.ext_getElem
   ·simp[h.len]
   ·intro i h1 h2;have hi:i<32:=by simpa [h.len] using h2
    simp[show i<d.length by rw[h.len];exact hi]
  ·have hi:i<32:=by simpa using hi
   have hlt:i<d.length:=by rw[h.len];exact hi
   have e:((u8s d).drop i).take 1=[.int .u8 (d.getD i 0)]:=by
    have hlt':i<(u8s d).length:=by rw[hl];exact hi
    rw[List.drop_eq_getElem_cons hlt'];simp[u8s,hlt]
   rw[e,hm];exact CX m _ (h.byte _ (by simp[hlt]))
 show((Tryz.prog.keyLits (Tryz.prog.types.size+1) 33 (u8s d).toArray.toList).map fun ls=>Lit.string (keyBytes ls))=_;rw[jt,key];rfl
theorem oK{v:Value}{kl:Lit}(h:keyOf Tryz.prog 33 v=some kl):∃ d,DigOk d∧v=dv d∧kl=dk d:=by
 have h0:=h;have hc:Tryz.prog.cellsOf 33=32:=by kernel_rfl
 have hc1:Tryz.prog.cellsOf 5=1:=by kernel_rfl
 unfold keyOf at h;rw[Tryz.underlying33] at h;dsimp only at h;split at h
 ·rename_i hh;obtain⟨_,hf⟩:=(Bool.and_eq_true _ _).mp hh;obtain⟨cs,rfl⟩:∃ cs,v = .agg cs:=by
   cases v <;> simp[Value.formed,Tryz.underlying33] at hf ⊢
  cases hl:Tryz.prog.keyLits (Tryz.prog.types.size+1) 33 (Value.agg cs).cells.toList with
  | none=>rw[hl] at h;simp at h
  | some ls=>
   have hcs:(Value.agg cs).cells.toList=cs.toList:=rfl;rw[hcs] at hl;unfold Program.keyLits at hl;rw[Tryz.underlying33] at hl;dsimp only at hl;split at hl
   ·rename_i hlen;rw[hc] at hlen;rw[hc1] at hl;cases hm:(List.range 32).mapM fun i=>Tryz.prog.keyLits Tryz.prog.types.size 5 ((cs.toList.drop (i*1)).take 1) with
    | none=>rw[hm] at hl;simp at hl
    | some r=>
     obtain⟨_,hat⟩:=CY hm;have hcell:∀(i:Nat) (hi:i<cs.toList.length),∃ n:Int,(0≤n∧n≤255)∧cs.toList[i] = .int .u8 n:=by
      intro i hi;obtain⟨y,_,hy⟩:=hat i (by simpa [hlen] using hi);obtain⟨n,hn,hc2,_⟩:=y6 _ _ _ hy;rw[List.getElem_range,Nat.mul_one,List.drop_eq_getElem_cons hi] at hc2;exact⟨n,hn,by simpa using hc2⟩
     obtain⟨d,hd,hdb⟩:∃ d:List Int,cs.toList=u8s d∧∀ b∈d,0≤b∧b≤255:=by
      have key:∀ l:List Value,(∀(i:Nat) (hi:i<l.length),∃ n:Int,(0≤n∧n≤255)∧l[i] = .int .u8 n)→∃ d:List Int,l=u8s d∧∀ b∈d,0≤b∧b≤255:=by
       intro l;induction l with
       | nil=>exact fun _=>⟨[],rfl,fun b hb=>by simp at hb⟩
       | cons c l ih=>
        intro hl;obtain⟨n,hn,hcn⟩:=hl 0 (by simp);have hcn:c = .int .u8 n:=hcn;subst hcn;obtain⟨d,rfl,hd⟩:=ih (fun i hi=>hl (i+1) (by simpa using hi));exact⟨n :: d,rfl,fun b hb=>by
         rcases List.mem_cons.1 hb with rfl|hb
         ·exact hn
         ·exact hd b hb⟩
      exact key _ hcell
     have hdo:DigOk d:=⟨by have:=congrArg List.length hd;simp[u8s] at this;rw[← this];simpa using hlen,hdb⟩;have hv:Value.agg cs=dv d:=by unfold dv;rw[← hd]
     refine⟨d,hdo,hv,?_⟩;rw[hv,iK hdo] at h0;exact(Option.some.inj h0).symm
   ·cases hl
 ·cases h
theorem xE{d d':List Int}(h:DigOk d)(h':DigOk d')(e:dk d=dk d'):d=d':=by
 have hv:=keyed.inj (iK h) (by rw[iK h',e]);have h1:(u8s d).toArray=(u8s d').toArray:=Value.agg.inj hv;have h2:u8s d=u8s d':=by simpa using h1
 have key:∀ a b:List Int,u8s a=u8s b→a=b:=by
  intro a;induction a with
  | nil=>intro b hb;cases b with
   | nil=>rfl
   | cons=>simp[u8s] at hb
  | cons x a ih=>intro b hb;cases b with
   | nil=>simp[u8s] at hb
   | cons y b=>
    simp only[u8s,List.map_cons,List.cons.injEq,Value.int.injEq,true_and] at hb;obtain⟨rfl,hb⟩:=hb;rw[ih b hb]
 exact key _ _ h2
theorem xF(d:List Int):WideAt.IsKeyLit (dk d):=trivial
end
section
set_option maxRecDepth 100000
open Go.RowKit
noncomputable def R64:Value→Option (DataW Unit×List MemPlace):=plainElem Tryz.prog 2
def Fits(D:DataW Unit)(f:List Int→Option Int)(c:Nat):Prop:=
 Maps.size D=c∧∀ d,DigOk d→match f d with
  | none=>Maps.has D (dk d)=false
  | some t=>aK t∧Maps.has D (dk d)=true∧∀ z,D.atKey (dk d) z = .lit (.int .i64 t)
def DM(w:World)(b n:Nat)(f:List Int→Option Int)(c:Nat):Prop:=∃ D,w.ownsMap Tryz.prog 33 R64 b n D∧Fits D f c
def upd(f:List Int→Option Int)(d:List Int)(t:Int):List Int→Option Int:=fun x=>if x=d then some t else f x
def cut(f:List Int→Option Int)(d:List Int):List Int→Option Int:=fun x=>if x=d then none else f x
theorem DM.le{w:World}{b n c:Nat}{f:List Int→Option Int}(h:DM w b n f c):c≤n:=by
 obtain⟨D,h,hs,_⟩:=h;rw[← hs];exact h.size_le
theorem DM.i64{w:World}{b n c:Nat}{f:List Int→Option Int}(h:DM w b n f c){d:List Int}{t:Int}(hd:DigOk d)(hf:f d=some t):aK t:=by
 obtain⟨D,_,_,h⟩:=h;have:=h d hd;rw[hf] at this;exact this.1
theorem DM.lt{w:World}{b n c:Nat}{f:List Int→Option Int}(h:DM w b n f c):b<w.heap.size:=by
 obtain⟨D,⟨es,clock,hb,_⟩,_⟩:=h;rcases Nat.lt_or_ge b w.heap.size with hlt|hge
 ·exact hlt
 ·rw[Array.getElem?_eq_none hge] at hb;cases hb
theorem DM.of_block{w w':World}{b n c:Nat}{f:List Int→Option Int}(h:DM w b n f c)(e:w'.heap[b]? = w.heap[b]?):DM w' b n f c:=by
 obtain⟨D,⟨es,clock,hb,r⟩,hf⟩:=h;exact⟨D,⟨es,clock,e.trans hb,r⟩,hf⟩
theorem DM.keep{w w':World}{b n c:Nat}{f:List Int→Option Int}(h:DM w b n f c)(hb:Below w.heap.size w w'):DM w' b n f c:=h.of_block (hb.block b h.lt)
theorem DM.mono{w:World}{b n m c:Nat}{f:List Int→Option Int}(h:DM w b n f c)(hm:n≤m):DM w b m f c:=by
 obtain⟨D,⟨es,clock,hb,h1,h2,h3⟩,hf⟩:=h;exact⟨D,⟨es,clock,hb,h1,Nat.le_trans h2 hm,h3⟩,hf⟩
theorem DM.made(w:World):DM (w.alloc (.map #[] 0)) w.heap.size 0 (fun _=>none) 0:=
 ⟨.map [],World.ownsMap_made _ _ _ _,rfl,fun _ _=>rfl⟩
theorem Fits.put{D:DataW Unit}{f:List Int→Option Int}{c:Nat}(h:Fits D f c)(hD:Maps.Tidy D){d:List Int}(hd:DigOk d){t:Int}(ht:aK t):
  Fits (D.put (dk d) (.lit (.int .i64 t))) (upd f d t) (if (f d).isSome then c else c+1):=by
 obtain⟨hs,hf⟩:=h;have hhas:Maps.has D (dk d)=(f d).isSome:=by
  have:=hf d hd;cases hfd:f d with
  | none=>rw[hfd] at this;exact this
  | some t=>rw[hfd] at this;exact this.2.1
 refine⟨by rw[Maps.size_put hD,hhas,hs],fun x hx=>?_⟩;unfold upd;by_cases hxd:x=d
 ·subst hxd;rw[if_pos rfl];exact⟨ht,Maps.has_put_same hD.isMap (xF x) _,fun z=>Maps.atKey_put_same hD.isMap (xF x) _ z⟩
 ·rw[if_neg hxd];have hne:dk x≠dk d:=fun e=>hxd (xE hx hd e)
  have:=hf x hx;cases hfx:f x with
  | none=>rw[hfx] at this;exact(Maps.has_put_other hne _).trans this
  | some t'=>
   rw[hfx] at this;exact⟨this.1,(Maps.has_put_other hne _).trans this.2.1,fun z=>(Maps.atKey_put_other hne _ z).trans (this.2.2 z)⟩
theorem Fits.del{D:DataW Unit}{f:List Int→Option Int}{c:Nat}(h:Fits D f c)(hD:Maps.Tidy D){d:List Int}(hd:DigOk d):
  ∃ c',Fits (D.del (dk d)) (cut f d) c'∧c'+(if (f d).isSome then 1 else 0)=c:=by
 obtain⟨hs,hf⟩:=h;have hhas:Maps.has D (dk d)=(f d).isSome:=by
  have:=hf d hd;cases hfd:f d with
  | none=>rw[hfd] at this;exact this
  | some t=>rw[hfd] at this;exact this.2.1
 refine⟨_,⟨rfl,fun x hx=>?_⟩,by rw[← hhas,Maps.size_del hD,hs]⟩;unfold cut;by_cases hxd:x=d
 ·subst hxd;rw[if_pos rfl];exact Maps.has_del_same
 ·rw[if_neg hxd];have hne:dk x≠dk d:=fun e=>hxd (xE hx hd e)
  have:=hf x hx;cases hfx:f x with
  | none=>rw[hfx] at this;exact(Maps.has_del_other hne).trans this
  | some t'=>
   rw[hfx] at this;exact⟨this.1,(Maps.has_del_other hne).trans this.2.1,fun z=>(Maps.atKey_del_other hne z).trans (this.2.2 z)⟩
theorem Fits.has{D:DataW Unit}{f:List Int→Option Int}{c:Nat}(h:Fits D f c){d:List Int}(hd:DigOk d):Maps.has D (dk d)=(f d).isSome:=by
 have:=h.2 d hd;cases hfd:f d with
 | none=>rw[hfd] at this;exact this
 | some t=>rw[hfd] at this;exact this.2.1
theorem DM.look{w:World}{b n c:Nat}{f:List Int→Option Int}{tM:TypeId}(ht:Tryz.prog.underlying tM=some (.map 33 2))(h:DM w b n f c){d:List Int}(hd:DigOk d):
  (Instr.lookup tM (.map (some b)) (.agg (u8s d).toArray) true).run Tryz.prog w = .ok (.tuple #[.int .i64 ((f d).getD 0),.bool (f d).isSome]) w:=by
 obtain⟨D,hown,hf⟩:=h;obtain⟨v,ps,hrun,hv⟩:=hown.look_ok keyed ht (z:=.int .i64 0) (by kernel_rfl) (zd:=.lit (.int .i64 0)) (zp:=[]) (plainElem_int Tryz.underlying2 (by decide)) (iK hd);obtain⟨x,rfl,hx,_⟩:=plainElem_int_inv Tryz.underlying2 hv;have hx:=congrArg Prod.fst hx;dsimp only at hx;rw[hf.has hd] at hrun;have:=hf.2 d hd;cases hfd:f d with
 | none=>
  rw[hfd] at this hrun;rw[Maps.atKey_of_not_has this] at hx;obtain rfl:x=0:=by simpa using hx.symm
  exact hrun
 | some t=>
  rw[hfd] at this hrun;rw[this.2.2] at hx;obtain rfl:x=t:=by simpa using hx.symm
  exact hrun
theorem DM.put_run{w:World}{b n c:Nat}{f:List Int→Option Int}{tM:TypeId}(ht:Tryz.prog.underlying tM=some (.map 33 2))(h:DM w b n f c){d:List Int}(hd:DigOk d){t:Int}(hti:aK t)(hn:n<maxLen):
  ∃ w',(Instr.mapUpdate tM (.map (some b)) (.agg (u8s d).toArray) (.int .i64 t)).run Tryz.prog w = .ok () w'∧DM w' b (n+1) (upd f d t) (if (f d).isSome then c else c+1)∧w.grownBy w' (some b):=by
 obtain⟨D,hown,hf⟩:=h;obtain⟨w',hrun,h',hg'⟩:=hown.update keyed ht hn (iK hd) (val:=.int .i64 t) (d:=.lit (.int .i64 t)) (ps:=[]) (plainElem_int Tryz.underlying2 (zV hti));exact⟨w',hrun,⟨_,h',hf.put (hown.tidy keyed) hd hti⟩,hg'⟩
def DR(w:World)(b r n:Nat)(f:List Int→Option Int)(c:Nat)(left:List Int→Bool)(cnt:Nat):Prop:=
 ∃ D l,w.ranges Tryz.prog 33 R64 b r n D l cnt∧Fits D f c∧∀ d,DigOk d→l (dk d)=left d
theorem DR.owns{w:World}{b r n c cnt:Nat}{f:List Int→Option Int}{left:List Int→Bool}(h:DR w b r n f c left cnt):DM w b n f c:=by
 obtain⟨D,l,h,hf,_⟩:=h;exact⟨D,h.owns,hf⟩
theorem DR.of_blocks{w w':World}{b r n c cnt:Nat}{f:List Int→Option Int}{left:List Int→Bool}(h:DR w b r n f c left cnt)(e:w'.heap[b]? = w.heap[b]?)(e':w'.heap[r]? = w.heap[r]?):DR w' b r n f c left cnt:=by
 obtain⟨D,l,⟨es,clock,since,seen,c0,hb,h1,h2,h3,hr,h4⟩,hf⟩:=h;exact⟨D,l,⟨es,clock,since,seen,c0,e.trans hb,h1,h2,h3,e'.trans hr,h4⟩,hf⟩
theorem DR.lt{w:World}{b r n c cnt:Nat}{f:List Int→Option Int}{left:List Int→Bool}(h:DR w b r n f c left cnt):r<w.heap.size∧r≠b:=by
 obtain⟨D,l,h,_⟩:=h;exact⟨h.lt,h.ne⟩
theorem DR.keep{w w':World}{b r n c cnt:Nat}{f:List Int→Option Int}{left:List Int→Bool}(h:DR w b r n f c left cnt)(hb:Below w.heap.size w w'):DR w' b r n f c left cnt:=
 h.of_blocks (hb.block b h.owns.lt) (hb.block r h.lt.1)
theorem DR.left_eq{w:World}{b r n c cnt:Nat}{f:List Int→Option Int}{left:List Int→Bool}(h:DR w b r n f c left cnt):w.rangeLeft b r=cnt:=by
 obtain⟨D,l,h,_⟩:=h;exact h.left_eq
theorem DM.congr{w:World}{b n c:Nat}{f f':List Int→Option Int}(h:DM w b n f c)(e:∀ d,DigOk d→f d=f' d):DM w b n f' c:=by
 obtain⟨D,h,hs,hf⟩:=h;exact⟨D,h,hs,fun d hd=>by rw[← e d hd];exact hf d hd⟩
section
variable {ops : Array Oper} {rest : List Oper} {o : Oper} {a : Act} {w : World} {Q : Exit → Act → World → Prop} {tM : TypeId} (ht : Tryz.prog.underlying tM = some (.map 33 2))
include ht
theorem GQ(hg:o.guard=none)(m:Operand)(hop:o.op=Op.range tM m){b n c:Nat}{f:List Int→Option Int}(hm:a.eval m = .map (some b))(h:DM w b n f c)
  (hK:∀ w',DR w' b w.heap.size n f c (fun d=>(f d).isSome) c→w.grownBy w' none→w'.heap.size=w.heap.size+1→wpList Tryz.prog ops Q rest (a.put o.dst (.pointer (some ⟨w.heap.size,0,none⟩))) w'):wpList Tryz.prog ops Q (o :: rest) a w:=by
 obtain⟨D,hown,hf⟩:=h;refine wpList_range_own w hg m tM hop 33 2 keyed ht R64 b n D hm hown fun w' h' hg' hs'=>?_
 rw[hf.1] at h';exact hK w' ⟨D,_,h',hf,fun d hd=>hf.has hd⟩ hg' hs'
omit ht in
theorem KK(hg:o.guard=none)(it:Operand)(hop:o.op=Op.next it false){b r n c cnt:Nat}{f:List Int→Option Int}{left:List Int→Bool}(hit:a.eval it = .pointer (some ⟨r,0,none⟩))(h:DR w b r n f c left cnt)
  (hDone:cnt=0→(∀ d,DigOk d→left d=false)→wpList Tryz.prog ops Q rest (a.put o.dst (.tuple #[.bool false])) w)
  (hMore:∀(d:List Int) (t:Int) (w':World) (cnt':Nat),DigOk d→aK t→left d=true→f d=some t→DR w' b r n f c (fun x=>left x && !(x == d)) cnt'→cnt'<cnt→w.grownBy w' (some r)→w'.heap.size=w.heap.size →
   (Instr.entry (.pointer (some ⟨r,0,none⟩))).run Tryz.prog w' = .ok (.tuple #[.agg (u8s d).toArray,.int .i64 t]) w'→wpList Tryz.prog ops Q rest (a.put o.dst (.tuple #[.bool true,.agg (u8s d).toArray,.int .i64 t])) w'):wpList Tryz.prog ops Q (o :: rest) a w:=by
 obtain⟨D,l,hr,hf,hl⟩:=h;refine wpList_next_ranges w hg it hop 33 keyed R64 dv (Value.int .i64) (fun key kl hk=>?_) (fun v y hv=>?_) b r n D l cnt hit hr (fun h0 hall=>hDone h0 fun d hd=>by rw[← hl d hd];exact hall _) fun d t kl y w' cnt' hkey hlk hv hat hr' hlt hg' hs' hen=>?_
 ·obtain⟨d,_,rfl,_⟩:=oK hk;exact⟨d,rfl⟩
 ·obtain⟨t,rfl,_⟩:=plainElem_int_inv Tryz.underlying2 hv;exact⟨t,rfl⟩
 ·obtain⟨d',hd,hdd,rfl⟩:=oK hkey;obtain rfl:d=d':=by
   have h1:(u8s d).toArray=(u8s d').toArray:=Value.agg.inj hdd;have h2:u8s d=u8s d':=by simpa using h1
   have:=congrArg (List.map fun v:Value=>match v with | .int _ n=>n|_=>0) h2;simpa [u8s,Function.comp_def] using this
  obtain⟨t',ht',hy,hw⟩:=plainElem_int_inv Tryz.underlying2 hv;obtain rfl:t=t':=by simpa using ht'
  subst hy;have hfd:f d=some t:=by
   have:=hf.2 d hd;cases hfd:f d with
   | none=>
    rw[hfd] at this;have h1:=hat .nil;rw[Maps.atKey_of_not_has this] at h1;cases h1
   | some t'=>
    rw[hfd] at this;have h1:=(hat .nil).symm.trans (this.2.2 .nil);obtain rfl:t=t':=by simpa using h1
    rfl
  refine hMore d t w' cnt' hd (i7 hw) (by rw[← hl d hd];exact hlk) hfd ⟨D,_,hr',hf,fun x hx=>?_⟩ hlt hg' hs' hen;show(l (dk x) && !(dk x).sameKey (dk d))=_;rw[hl x hx];by_cases hxd:x=d
  ·subst hxd;simp[WideAt.sameKey_self (xF x)]
  ·rw[Maps.sameKey_ne (fun e=>hxd (xE hx hd e))];simp[hxd]
theorem J1{K:Act→World→Prop}{E:Prop}(m x:Operand)(hop:o.op=Op.call { callee:=Callee.builtin Builtin.delete,args:=#[m,x],argTypes:=#[tM,33] })(hw:Region.wanted o (yielded ops a.tmps)=true){b r n c cnt:Nat}{f:List Int→Option Int}{left:List Int→Bool}
  (hm:a.eval m = .map (some b)) (h:DR w b r n f c left cnt) {d:List Int} (hd:DigOk d) (hx:a.eval x = .agg (u8s d).toArray)
  (hK:∀ w' c' cnt',DR w' b r n (cut f d) c' (fun x=>left x && !(x == d)) cnt'→c'+(if (f d).isSome then 1 else 0)=c→cnt'≤cnt→w.mapTurned w' b→K (a.put o.dst (.tuple #[])) w'):
  if Region.wanted o (yielded ops a.tmps)=true then Oper.wp Tryz.prog o a w K Q else E:=by
 rw[if_pos hw];obtain⟨D,l,hr,hf,hl⟩:=h;obtain⟨w',cnt',hrun,hr',hle,hturn⟩:=hr.drop keyed ht (iK hd) o.type;obtain⟨c',hf',hc'⟩:=hf.del (hr.owns.tidy keyed) hd;have hx':a.eval x=dv d:=hx;unfold Oper.wp;simp[execOp,hop,resolve,invoke,builtin,hm,hx',hrun,Result.andThen];refine hK w' c' cnt' ⟨_,_,hr',hf',fun x hx=>?_⟩ hc' hle hturn;show(l (dk x) && !(dk x).sameKey (dk d))=_;rw[hl x hx];by_cases hxd:x=d
 ·subst hxd;simp[WideAt.sameKey_self (xF x)]
 ·rw[Maps.sameKey_ne (fun e=>hxd (xE hx hd e))];simp[hxd]
end
end
section
set_option maxRecDepth 100000
open Go.RowKit
def IX(w:World)(g b n:Nat)(f:List Int→Option Int)(c:Nat):Prop:=w.cell? ⟨g,0,none⟩=some (.map (some b))∧g≠b∧DM w b n f c
theorem IX.keep{w w':World}{g b n c:Nat}{f:List Int→Option Int}(h:IX w g b n f c)(hb:Below w.heap.size w w'):IX w' g b n f c:=⟨Below.cell' hb h.1,h.2.1,h.2.2.keep hb⟩
theorem IX.mono{w:World}{g b n m c:Nat}{f:List Int→Option Int}(h:IX w g b n f c)(hm:n≤m):IX w g b m f c:=⟨h.1,h.2.1,h.2.2.mono hm⟩
def old?(f:List Int→Option Int)(d:List Int)(t:Int):Bool:=(f d).isSome && decide (t≤(f d).getD 0)
def oL(f:List Int→Option Int)(d:List Int)(t:Int):List Int→Option Int:=if old? f d t then f else upd f d t
def EU(f:List Int→Option Int)(d:List Int)(c:Nat):Nat:=if (f d).isSome then c else c+1
theorem CZ(g b n c:Nat)(f:List Int→Option Int)(d:List Int)(t:Int)(w:World)(h:IX w g b n f c)(hd:DigOk d)(ht:aK t)(hn:n<maxLen):
  Calls Tryz.prog 34 #[.pointer (some ⟨g,0,none⟩),.agg (cY d t).toArray] w fun e w'=>e = .returned (.bool (!old? f d t))∧IX w' g b (n+1) (oL f d t) (EU f d c)∧Off b w w':=by
 go_enter Tryz.func34,Tryz.ntmps34
 have hlen:=iP hd t;have h32:(u8s d).length=32:=by simp[u8s,hd.len]
 obtain⟨hg,hgb,hm⟩:=h;have hglt:=fJ hg;have hblt:=hm.lt;have hbA:Below w.heap.size w (w.alloc (.cells (cY d t).toArray 35)):=(by repeat (first|exact Below.refl _ _|assumption|refine bR ?_ _|refine Below.setCell ?_ (by first|exact Nat.le_refl _|assumption|omega|(simp <;> omega)) _|refine Below.alloc ?_ (by first|exact Nat.le_refl _|assumption|omega|(simp <;> omega)) _));have hB:=Blk.new w 35 (cY d t).toArray;have hsA:(w.alloc (.cells (cY d t).toArray 35)).heap.size=w.heap.size+1:=by simp
 have hg1:=Below.cell' hbA hg;have hm1:=hm.keep hbA;have hh1:=hbA.block b hblt;go_wp2_with fail
 obtain⟨w1,hw1⟩:=je (w.alloc (.cells (cY d t).toArray 35));rw[← hw1] at hbA hB hg1 hm1 hh1 hsA ⊢;clear hw1;have hrd:w1.rangeAt w.heap.size 0 (u8s d):=fun j u hj=>by
  rw[Nat.zero_add,hB.cell j];have hlt:=(List.getElem?_eq_some_iff.1 hj).1;simp only[List.getElem?_toArray,cY];rw[List.getElem?_append_left hlt];exact hj
 have htc:w1.cell? ⟨w.heap.size,32,none⟩=some (.int .i64 t):=by
  rw[hB.cell 32];simp only[List.getElem?_toArray,cY];rw[List.getElem?_append_right (by omega),h32];rfl
 have hlook:=fun(w':World) (hw':w'.heap[b]? = w.heap[b]?)=>(hm.of_block hw').look (tM:=114) Tryz.underlying114 hd
 have hud:=Tryz.underlying33;have hui:(Tryz.prog.info? 33).map (·.size)=some (u8s d).length:=by rw[h32];kernel_rfl
 go_region_held3 (fun w'=>w'.cell? ⟨g,0,none⟩=some (.map (some b))∧w'.rangeAt w.heap.size 0 (u8s d)∧w'.cell? ⟨w.heap.size,32,none⟩=some (.int .i64 t)∧w'.heap[b]? = w.heap[b]?∧Below w1.heap.size w1 w')
  (first
   | (refine⟨by assumption,by assumption,by assumption,by assumption,(Below.refl _ _).drew⟩)
   | (go_split_ands;exact⟨by assumption,by assumption,by assumption,by assumption,by assumption⟩)
   | go_keep)
  (fail)
 have hm2:DM w1.drew b n f c:=hm1.of_block rfl;have hb2:Below w.heap.size w w1.drew:=hbA.drew;have hg2:w1.drew.cell? ⟨g,0,none⟩=some (.map (some b)):=hg1;have htc2:w1.drew.cell? ⟨w.heap.size,32,none⟩=some (.int .i64 t):=htc;have hrd2:w1.drew.rangeAt w.heap.size 0 (u8s d):=hrd;obtain⟨w2,hw2⟩:=je w1.drew;rw[← hw2] at hm2 hb2 hg2 htc2 hrd2 ⊢;rename_i hH;clear hlook hH hw2 hrd htc hB hg1 hm1 hh1 hbA hsA;rcases jb (old? f d t) with hold|hold
 ·have ho:=hold;unfold old? at ho;obtain⟨t1,t2⟩:=(Bool.and_eq_true _ _).mp ho;have hpf:oL f d t=f:=by unfold oL;rw[if_pos hold]
  have hpc:EU f d c=c:=by unfold EU;rw[if_pos t1]
  have HP:=jz hpf;have HC:=jz hpc;have HO:=jz hold;clear hpf hpc hold ho hui hud;go_wp2_with fail
  go_ret;rw[HP.out,HC.out,HO.out];exact⟨rfl,⟨hg2,hgb,hm2.mono (Nat.le_succ n)⟩,Off.of_below hb2⟩
 ·have hpf:oL f d t=upd f d t:=by unfold oL;rw[if_neg (by rw[hold];simp)]
  obtain⟨w3,hrun,hm3,hg3⟩:=(show DM w2.drew b n f c from hm2.of_block rfl).put_run (tM:=114) Tryz.underlying114 hd ht hn;have hoff:Off b w2.drew w3:=Off.of_grown hg3;have hb2d:Below w.heap.size w w2.drew:=hb2.drew;have k1:w3.cell? ⟨g,0,none⟩=some (.map (some b)):=hoff.cell (show w2.drew.cell? ⟨g,0,none⟩=some (.map (some b)) from hg2) hgb;have k2:w3.cell? ⟨w.heap.size,32,none⟩=some (.int .i64 t):=hoff.cell (show w2.drew.cell? ⟨w.heap.size,32,none⟩=some (.int .i64 t) from htc2) (by show w.heap.size≠b;omega);have k3:w3.rangeAt w.heap.size 0 (u8s d):=fun j u hj=>hoff.cell (show w2.drew.cell? ⟨w.heap.size,0+j,none⟩=some u from hrd2 j u hj) (by show w.heap.size≠b;omega)
  have HP:=jz hpf;have HO:=jz hold;have hcase:(f d).isSome=false∨(f d).isSome=true∧decide (t≤(f d).getD 0)=false:=by
   unfold old? at hold;cases h:(f d).isSome
   ·exact .inl rfl
   ·rw[h] at hold;exact .inr ⟨rfl,by simpa using hold⟩
  have HM:=jz hm3;have HF:=jz ((Off.of_below hb2d).trans hoff);clear hpf hold hm3 hg3 hoff hb2d hm2 hb2;rcases hcase with t1|⟨t1,t2⟩
  all_goals
   go_wp2_with fail
   go_region_held3 (fun w'=>w'.cell? ⟨g,0,none⟩=some (.map (some b))∧w'.rangeAt w.heap.size 0 (u8s d)∧w'.cell? ⟨w.heap.size,32,none⟩=some (.int .i64 t))
    (first
     | (refine⟨by assumption,by assumption,by assumption⟩)
     | (go_split_ands;exact⟨by assumption,by assumption,by assumption⟩)
     | go_keep)
    (fail)
   go_wp2_with fail
   go_ret;rw[HP.out,HO.out];exact⟨rfl,⟨k1,hgb,HM.out⟩,HF.out⟩
end
section
set_option maxRecDepth 100000
open Go.RowKit
theorem J2(g b n c:Nat)(f:List Int→Option Int)(d:List Int)(w:World)(h:IX w g b n f c)(hd:DigOk d):
  Calls Tryz.prog 52 #[.pointer (some ⟨g,0,none⟩),.agg (u8s d).toArray] w fun e w'=>e = .returned (.tuple #[.int .i64 ((f d).getD 0),.bool (f d).isSome])∧Below w.heap.size w w':=by
 obtain⟨hg,hgb,hm⟩:=h;have hlook:=fun(w':World) (hw':w'.heap[b]? = w.heap[b]?)=>(hm.of_block hw').look (tM:=114) Tryz.underlying114 hd
 have hbA:Below w.heap.size w (w.alloc (.cells (u8s d).toArray 33)):=(by repeat (first|exact Below.refl _ _|assumption|refine bR ?_ _|refine Below.setCell ?_ (by first|exact Nat.le_refl _|assumption|omega|(simp <;> omega)) _|refine Below.alloc ?_ (by first|exact Nat.le_refl _|assumption|omega|(simp <;> omega)) _));have hrd:=(Blk.new w 33 (u8s d).toArray).range;have h32:(u8s d).length=32:=by simp[u8s,hd.len]
 have hg1:=Below.cell' hbA hg;have hh1:=hbA.block b hm.lt;rw[jt] at hrd;go_enter Tryz.func52,Tryz.ntmps52
 go_wp2_with (refine ld 33 _ rfl rfl rfl hrd Tryz.underlying33 rfl (by rw[h32];kernel_rfl) ?_)
 obtain⟨w1,hw1⟩:=je (w.alloc (.cells (u8s d).toArray 33));rw[← hw1] at hbA hrd hg1 hh1 ⊢;clear hw1;have hud:=Tryz.underlying33;have hui:(Tryz.prog.info? 33).map (·.size)=some (u8s d).length:=by rw[h32];kernel_rfl
 go_region_held3 (fun w'=>w'.cell? ⟨g,0,none⟩=some (.map (some b))∧w'.rangeAt w.heap.size 0 (u8s d)∧w'.heap[b]? = w.heap[b]?∧Below w.heap.size w w')
  (first
   | (refine⟨by assumption,by assumption,by assumption,hbA.drew⟩)
   | (go_split_ands;exact⟨by assumption,by assumption,by assumption,by assumption⟩)
   | go_keep)
  (fail)
 go_wp2_with fail
 go_ret2
 exact⟨rfl,by go_split_ands;assumption⟩
theorem J3(g b n c:Nat)(f:List Int→Option Int)(d:List Int)(now:Int)(w:World)(h:IX w g b n f c)(hd:DigOk d):
  Calls Tryz.prog 30 #[.pointer (some ⟨g,0,none⟩),.agg (u8s d).toArray,.int .i64 now] w fun e w'=>e = .returned (.bool ((f d).isSome && decide (now≤(f d).getD 0)))∧Below w.heap.size w w':=by
 have hbA:Below w.heap.size w (w.alloc (.cells (u8s d).toArray 33)):=(by repeat (first|exact Below.refl _ _|assumption|refine bR ?_ _|refine Below.setCell ?_ (by first|exact Nat.le_refl _|assumption|omega|(simp <;> omega)) _|refine Below.alloc ?_ (by first|exact Nat.le_refl _|assumption|omega|(simp <;> omega)) _));have hrd:=(Blk.new w 33 (u8s d).toArray).range;have h32:(u8s d).length=32:=by simp[u8s,hd.len]
 rw[jt] at hrd;go_enter Tryz.func30,Tryz.ntmps30
 go_wp2_with (refine ld 33 _ rfl rfl rfl hrd Tryz.underlying33 rfl (by rw[h32];kernel_rfl) ?_)
 refine(J2 g b n c f d _ (h.keep hbA) hd).mono ?_;rintro e w1 ⟨rfl,hb0⟩;have hb1:=aB hbA hb0;clear h;rcases jb (f d).isSome with t1|t1 <;> rcases jb (decide (now≤(f d).getD 0)) with t2|t2
 all_goals
  go_wp2_with fail
  go_ret;exact⟨by rw[t1,t2];rfl,hb1⟩
end
section
set_option maxRecDepth 100000
open Go.RowKit
def kY(f:List Int→Option Int)(now:Int):List Int→Option Int:=fun d=>match f d with|some t=>if t<now then none else some t|none=>none
theorem DM.zero{w:World}{b n c:Nat}{f:List Int→Option Int}(h:DM w b n f c)(hz:∀ d,DigOk d→f d=none):c=0:=by
 obtain⟨D,hown,hf⟩:=h;obtain⟨w',hrun,r1,r2,r3⟩:=hown.range keyed Tryz.underlying114;rcases r1.next keyed 0 with ⟨h0,_⟩|⟨key,v,kl,y,w'',cnt',hkey,hlk,_⟩
 ·rw[← hf.1];exact h0
 ·obtain⟨d,hd,_,rfl⟩:=oK hkey;rw[hf.has hd,hz d hd] at hlk;cases hlk
theorem Off.of_turned{w w':World}{b:Nat}(h:w.mapTurned w' b):Off b w w':=Off.of_grown h.grown
theorem GR(g b n c:Nat)(f:List Int→Option Int)(now:Int)(w:World)(h:IX w g b n f c)(hn:n≤1000):
  Calls Tryz.prog 38 #[.pointer (some ⟨g,0,none⟩),.int .i64 now] w fun e w'=>∃ k c':Nat,e = .returned (.int .i64 k)∧k+c'=c∧IX w' g b n (kY f now) c'∧Off b w w':=by
 obtain⟨hg,hgb,hm⟩:=h;have hc:=hm.le;go_enter Tryz.func38,Tryz.ntmps38
 go_wp2_with (at_range;refine GQ Tryz.underlying114 rfl _ rfl rfl hm ?_;intro w1 hR1 hg1 hs1)
 simp only[jq];have hoff1:Off b w w1:=⟨hg1.os,hg1.tape,hg1.output,hg1.size,fun k hk _=>hg1.block k hk (by simp)⟩;have hblt:=hm.lt;have hglt:=fJ hg;go_loopw [5] (fun m wr=>∃(k c' cnt:Nat) (f':List Int→Option Int) (left:List Int→Bool),m = .int .i64 k∧k+c'=c∧DR wr b w.heap.size n f' c' left cnt∧Off b w wr∧Hid (∀ d,DigOk d→f' d=if left d then f d else kY f now d)) (fun _ wr=>wr.rangeLeft b w.heap.size)
 case atStart=>exact⟨0,c,c,f,_,rfl,by omega,hR1,hoff1,jz (fun d _=>by
  cases h:f d <;> simp[h,kY])⟩
 case round=>
  obtain⟨k,c',cnt,f',left,rfl,hk,hR,hoff,HF⟩:=hrel;have hgr:wr.cell? ⟨g,0,none⟩=some (.map (some b)):=hoff.cell hg hgb;have hcnt:=jz hR.left_eq;have hszr:=hoff.size;go_wp2_with (at_next;refine KK rfl _ rfl rfl hR ?_ ?_)
  ·intro h0 hall;go_wp2_with fail
   go_ret;refine⟨k,c',rfl,hk,⟨hgr,hgb,hR.owns.congr fun d hd=>?_⟩,hoff⟩;rw[HF.out d hd,if_neg (by rw[hall d hd];simp)]
  ·intro d t w2 cnt' hd hti hl hfd hR2 hlt hg2 hs2 hen;have h1:=cS d;have h32:(u8s d).length=32:=by simp[u8s,hd.len]
   have hfd0:f d=some t:=by
    have:=HF.out d hd;rw[if_pos hl] at this;rw[← this];exact hfd
   have hoff2:Off b w w2:=⟨hg2.os.trans hoff.os,hg2.tape.trans hoff.tape,hg2.output.trans hoff.output,by omega,fun i hi hne=>(hg2.block i (by omega) (fun e=>by injection e with e;omega)).trans (hoff.block i hi hne)⟩;have hgr2:w2.cell? ⟨g,0,none⟩=some (.map (some b)):=hoff2.cell hg hgb;have HFD:=jz hfd;have HFD0:=jz hfd0;have HLT:=jz hlt;have HS2:=jz hs2;clear hR hR1 hfd hfd0 hlt hs2;rcases jb (decide (t<now)) with t1|t1
   ·go_wp2_with (refine cR 33 (.tmp 6) (.tmp 18) rfl rfl rfl rfl (by simp only[js,h32];kernel_rfl) (by simp only[js,h32] <;> rfl) h1 ?_;intro w3 hblk hb3 hs3)
    have hgr3:=Below.cell' hb3 hgr2;have hR3:=hR2.keep hb3;have hoff3:=hoff2.trans (Off.of_below hb3);have hrd3:=Blk.range hblk;rw[jt] at hrd3;have hw2b:w2.heap.size≠b:=by have:=hoff2.size;omega
    have hud:=Tryz.underlying33;have hui:(Tryz.prog.info? 33).map (·.size)=some (u8s d).length:=by rw[h32];kernel_rfl
    have hR3d:DR w3.drew b w.heap.size n f' c' (fun x=>left x && !(x == d)) cnt':=hR3.of_blocks rfl rfl;have e1:IntKind.i64.wrap ((k:Int)+1)=(k:Int)+1:=IntWalk.i64_in _ (by omega);clear hR2 hblk hen
    go_region_held3 (fun w'=>w'.cell? ⟨g,0,none⟩=some (.map (some b))∧w'.rangeAt w2.heap.size 0 (u8s d))
     (first
      | (refine⟨by assumption,by assumption⟩)
      | (go_split_ands;exact⟨by assumption,by assumption⟩)
      | (go_split_ands;exact⟨(Off.of_turned hturn).cell (by assumption) hgb,fun j u hj=>(Off.of_turned hturn).cell (show w3.drew.cell? ⟨w2.heap.size,0+j,none⟩=some u from hrd3 j u hj) hw2b⟩)
      | go_keep)
     ((refine J1 Tryz.underlying114 _ _ rfl rfl rfl hR3d hd rfl ?_;intro w4 c4 cnt4 hR4 hc4 hle4 hturn))
    go_wp2_with fail
    have hoff4:=hoff3.trans (show Off b w3 w4 from(show Off b w3 w3.drew from⟨rfl,rfl,rfl,Nat.le_refl _,fun _ _ _=>rfl⟩).trans (Off.of_turned hturn));rw[HFD.out,Option.isSome_some,if_pos rfl] at hc4;refine⟨⟨k+1,c4,cnt4,cut f' d,_,by go_num,by omega,hR4,hoff4,jz fun x hx=>?_⟩,?_⟩
    ·by_cases hxd:x=d
     ·subst hxd;have hlt:=of_decide_eq_true t1;simp[cut,kY,HFD0.out,hlt]
     ·simp only[cut,if_neg hxd];rw[HF.out x hx];simp[hxd]
    ·rw[hcnt.out,hR4.left_eq];have:=HLT.out;omega
   ·go_wp2_with (refine cR 33 (.tmp 6) (.tmp 18) rfl rfl rfl rfl (by simp only[js,h32];kernel_rfl) (by simp only[js,h32] <;> rfl) h1 ?_;intro w3 hblk hb3 hs3)
    refine⟨⟨k,c',cnt',f',_,rfl,hk,hR2.keep hb3,hoff2.trans (Off.of_below hb3),jz fun x hx=>?_⟩,?_⟩
    ·by_cases hxd:x=d
     ·subst hxd;have hlt:=of_decide_eq_false t1;simp[kY,HFD.out,HFD0.out,hlt]
     ·rw[HF.out x hx];simp[hxd]
    ·rw[hcnt.out,(hR2.keep hb3).left_eq];exact HLT.out
end
section
set_option maxRecDepth 100000
open Go.RowKit
def jF(x y:Int):Int:=if x<y then -1 else if y<x then 1 else 0
def fN:List Int→List Int→Int
 | [],[]=>0
 | [],_ :: _=>-1
 | _ :: _,[]=>1
 | a :: xs,b :: ys=>if a<b then -1 else if b<a then 1 else fN xs ys
def dE(p q:List Int×Int):Int:=if jF p.2 q.2≠0 then jF p.2 q.2 else fN p.1 q.1
theorem C7{a b:Int}(ha:0≤a∧a≤255)(hb:0≤b∧b≤255):a.toNat.toUInt8<b.toNat.toUInt8 ↔ a<b:=by
 rw[UInt8.lt_iff_toNat_lt];simp only[Nat.toUInt8_eq,UInt8.toNat_ofNat'];omega
theorem iW:∀(x y:List Int),(∀ b∈x,0≤b∧b≤255)→(∀ b∈y,0≤b∧b≤255)→Lib.compareBytes (Lib.bytesOf x) (Lib.bytesOf y)=fN x y
 | [],[],_,_=>rfl
 | [],_ :: _,_,_=>rfl
 | _ :: _,[],_,_=>rfl
 | a :: xs,b :: ys,hx,hy=>by
  have ih:=iW xs ys (fun c hc=>hx c (by simp[hc])) (fun c hc=>hy c (by simp[hc]));have ha:=hx a (by simp);have hb:=hy b (by simp);show(if a.toNat.toUInt8<b.toNat.toUInt8 then (-1:Int) else if b.toNat.toUInt8<a.toNat.toUInt8 then 1 else Lib.compareBytes (Lib.bytesOf xs) (Lib.bytesOf ys))=if a<b then -1 else if b<a then 1 else fN xs ys
  simp only[C7 ha hb,C7 hb ha,ih]
theorem J4(g g':Nat)(c c':Nat)(x y:List Int)(w:World)(hx:DigOk x)(hy:DigOk y)(h:w.rangeAt g 0 (u8s x))(h':w.rangeAt g' 0 (u8s y)):
  (Extern.BytealgCompare.compare #[.slice (some ⟨g,0,none⟩) 32 c,.slice (some ⟨g',0,none⟩) 32 c']).run Tryz.prog w = .ok (.int .i64 (fN x y)) w:=by
 have key:∀(g c:Nat) (x:List Int),DigOk x→w.rangeAt g 0 (u8s x)→(Extern.Bytes.bytesOf (.slice (some ⟨g,0,none⟩) 32 c)).run Tryz.prog w = .ok ⟨(Lib.bytesOf x).toArray⟩ w:=by
  intro g c x hx h;show(Extern.Bytes.loadBytes ⟨g,0,none⟩ 32 .empty).run Tryz.prog w=_;have:=Lib.run_loadBytesX (P:=Tryz.prog) (w:=w) x ⟨g,0,none⟩ .empty (fun j u hj=>by
   have h1:=h j (.int .u8 u) (by simp[u8s,hj])
   by_cases hj0:j=0
   ·subst hj0;simpa [Addr.add] using h1
   ·simpa [Addr.add,hj0] using h1)
  rw[hx.len] at this;rw[this];simp
 change Sem.run Tryz.prog (do pure (goInt (Extern.BytealgCompare.cmp (← Extern.Bytes.bytesOf (.slice (some ⟨g,0,none⟩) 32 c)) (← Extern.Bytes.bytesOf (.slice (some ⟨g',0,none⟩) 32 c'))))) w=_;simp only[Sem.run_bind,Sem.run_pure,key g c x hx h,key g' c' y hy h',Result.andThen];rw[Lib.cmp_eq];show Result.ok (Value.int .i64 (Lib.compareBytes (Lib.bytesOf x).toArray.toList (Lib.bytesOf y).toArray.toList)) w=_;rw[jt,jt,iW x y hx.byte hy.byte]
theorem tO(g g':Nat)(c c':Nat)(x y:List Int)(w:World)(hx:DigOk x)(hy:DigOk y)(h:w.rangeAt g 0 (u8s x))(h':w.rangeAt g' 0 (u8s y)):
  Calls Tryz.prog 86 #[.slice (some ⟨g,0,none⟩) 32 c,.slice (some ⟨g',0,none⟩) 32 c'] w fun e w'=>e = .returned (.int .i64 (fN x y))∧w'=w:=by
 go_enter Tryz.func86,Tryz.ntmps86
 go_wp2
 rw[run_callFunc_extern Tryz.func117 (by kernel_rfl) (by kernel_rfl) (by kernel_rfl) (e:=Extern.BytealgCompare.compare) (by kernel_rfl)];rw[J4 g g' c c' x y w hx hy h h'];simp only[Result.andThen];rw[Oper.upon_value];go_wp2
 go_ret;exact⟨rfl,rfl⟩
theorem uO(x:Int)(w:World):Calls Tryz.prog 116 #[.int .i64 x] w fun e w'=>e = .returned (.bool false)∧w'=w:=by
 go_enter Tryz.func116,Tryz.ntmps116
 go_wp2_with fail
 go_ret;exact⟨rfl,rfl⟩
theorem y7(x y:Int)(w:World):
  Calls Tryz.prog 85 #[.int .i64 x,.int .i64 y] w fun e w'=>e = .returned (.int .i64 (jF x y))∧w'=w:=by
 rcases jb (decide (x<y)) with t1|t1 <;> rcases jb (decide (y<x)) with t2|t2
 all_goals
  go_enter Tryz.func85,Tryz.ntmps85
  go_wp2_with fail
  refine(uO x w).mono ?_;rintro e w1 ⟨rfl,rfl⟩;go_wp2_with fail
  refine(uO y _).mono ?_;rintro e w1 ⟨rfl,rfl⟩;go_wp2_with fail
  go_ret;have u1:=t1;have u2:=t2;simp only[decide_eq_true_eq,decide_eq_false_iff_not] at u1 u2;refine⟨?_,rfl⟩;unfold jF;simp[u1,u2]
end
section
set_option maxRecDepth 100000
open Go.RowKit
def mO(l:List (List Int×Int)):(List Int→Option Int)×Nat:=l.foldl (fun s p=>(oL s.1 p.1 p.2,EU s.1 p.1 s.2)) (fun _=>none,0)
theorem uP(l:List (List Int×Int))(k:Nat)(h:k<l.length):mO (l.take (k+1))=(oL (mO (l.take k)).1 l[k].1 l[k].2,EU (mO (l.take k)).1 l[k].1 (mO (l.take k)).2):=by
 unfold mO;rw[List.take_succ_eq_append_getElem h,List.foldl_append];rfl
attribute [irreducible] mO
theorem J5(v:Value)(l:List (List Int×Int))(w:World)(hs:Sn w 33 v l.length (l.flatMap aC))(hok:∀ p∈l,EntOk p)(hl:l.length≤1000):
  Calls Tryz.prog 43 #[v] w fun e w'=>∃ g b,e = .returned (.pointer (some ⟨g,0,none⟩))∧IX w' g b l.length (mO l).1 (mO l).2∧w.heap.size≤g∧w.heap.size≤b∧Below w.heap.size w w':=by
 obtain⟨A,cap,rfl,hcap,_,_⟩:=id hs;have HS:=jz hs;have HOK:=jz hok;clear hs hok;have hmk:∀ w:World,(Instr.makeMap 114 none).run Tryz.prog w = .ok (.map (some w.heap.size)) (w.alloc (.map #[] 0)):=fun w=>run_makeMap _ w
 go_enter Tryz.func43,Tryz.ntmps43
 go_wp2_with fail
 clear hmk;go_loopw [11] (fun i wr=>∃ k:Nat,k≤l.length∧i = .int .i64 k∧IX wr (w.heap.size+1) w.heap.size k (mO (l.take k)).1 (mO (l.take k)).2∧Below w.heap.size w wr) (fun i _=>l.length-(intOf i).toNat)
 case atStart=>
  refine⟨0,Nat.zero_le _,rfl,⟨?_,by omega,?_⟩,(by repeat (first|exact Below.refl _ _|assumption|refine bR ?_ _|refine Below.setCell ?_ (by first|exact Nat.le_refl _|assumption|omega|(simp <;> omega)) _|refine Below.alloc ?_ (by first|exact Nat.le_refl _|assumption|omega|(simp <;> omega)) _))⟩
  ·exact(Blk.newAt (w.alloc (.map #[] 0)) 116 #[.map (some w.heap.size)] (w.heap.size+1) (by simp)).cell 0
  ·unfold mO;exact(DM.made w).keep ((Below.refl _ _).alloc (Nat.le_refl _) _)
 case round=>
  obtain⟨k,hk,rfl,hX,hb⟩:=hrel;by_cases hlt:k<l.length
  ·obtain⟨b,off,rfl,hr⟩:=gH aC EntOk 33 aH (HS.below hb) HOK.out k hlt;have hr:wr.rangeAt b (off+k*33) (aC l[k]):=hr;have hpk:=HOK.out l[k] (List.getElem_mem hlt);have hlen:=aH l[k] hpk;have h1:(aC l[k]).toArray.all (·.oneCell')=true:=dK l[k].1 l[k].2;have hsnoc:=jz (uP l k hlt);have hsz:=hb.size;have hXlt:=hX.2.2.lt;have hi0:(0:Int)≤k:=by omega
   have hi1:(k:Int)<l.length:=by omega
   go_wp2_with (first
    | (refine ld 35 _ rfl rfl rfl hr Tryz.underlying35 rfl (by rw[hlen];kernel_rfl) ?_)
    | (refine cR 35 (.tmp 5) (.tmp 14) rfl rfl rfl rfl (by simp only[js,hlen];kernel_rfl) (by simp only[js,hlen] <;> rfl) h1 ?_;intro w2 hblk hb2 hsz2;have hr2:=Blk.range hblk;rw[jt] at hr2)
    | (refine ld 35 _ rfl rfl rfl hr2 Tryz.underlying35 rfl (by rw[hlen];kernel_rfl) ?_))
   refine(CZ _ _ k _ _ l[k].1 l[k].2 w2 (hX.keep hb2) hpk.dig hpk.exp (by unfold maxLen;omega)).mono ?_;rintro e w3 ⟨rfl,hX3,hoff⟩;go_wp2_with fail
   refine⟨⟨k+1,by omega,by go_num,?_,(aB hb hb2).trans (hoff.below (Nat.le_refl _) (by omega))⟩,by simp[intOf];omega⟩;rw[hsnoc.out];exact hX3
  ·obtain rfl:k=l.length:=by omega
   rw[List.take_length] at hX;go_wp2_with fail
   go_ret;exact⟨_,_,rfl,hX,Nat.le_succ _,Nat.le_refl _,hb⟩
end
section
set_option maxRecDepth 100000
theorem GS(x y:Int):jF y x = -jF x y:=by
 unfold jF;split <;> split <;> omega
theorem iL(x y:Int):jF x y = -1∧x<y∨jF x y=0∧x=y∨jF x y=1∧y<x:=by
 unfold jF;split
 ·exact .inl ⟨rfl,by assumption⟩
 ·split
  ·exact .inr (.inr ⟨rfl,by assumption⟩)
  ·exact .inr (.inl ⟨rfl,by omega⟩)
theorem y8:∀ x y:List Int,fN y x = -fN x y
 | [],[]=>rfl
 | [],_ :: _=>rfl
 | _ :: _,[]=>rfl
 | a :: x,b :: y=>by
  have ih:=y8 x y;simp only[fN];split
  ·rw[if_neg (by omega)]
  ·split
   ·rfl
   ·exact ih
theorem uQ:∀ x y:List Int,fN x y=0→x=y
 | [],[],_=>rfl
 | [],_ :: _,h=>by simp[fN] at h
 | _ :: _,[],h=>by simp[fN] at h
 | a :: x,b :: y,h=>by
  simp only[fN] at h;split at h
  ·omega
  ·split at h
   ·omega
   ·rw[uQ x y h,show a=b by omega]
theorem uR:∀ x:List Int,fN x x=0
 | []=>rfl
 | a :: x=>by
  simp only[fN];rw[if_neg (by omega),if_neg (by omega)];exact uR x
theorem sD:∀ x y z:List Int,fN x y≤0→fN y z≤0→fN x z≤0
 | [],[],[],_,_=>by simp[fN]
 | [],_ :: _,[],_,_=>by simp[fN]
 | [],_,_ :: _,_,_=>by simp[fN]
 | _ :: _,[],_,h,_=>by simp[fN] at h
 | _ :: _,_ :: _,[],_,h=>by simp[fN] at h
 | a :: x,b :: y,c :: z,h,h'=>by
  have ih:=sD x y z;simp only[fN] at h h' ⊢;split at h
  ·split at h'
   ·rw[if_pos (by omega)];omega
   ·split at h'
    ·omega
    ·rw[if_pos (by omega)];omega
  ·split at h
   ·omega
   ·split at h'
    ·rw[if_pos (by omega)];omega
    ·split at h'
     ·omega
     ·rw[if_neg (by omega),if_neg (by omega)];exact ih h h'
theorem dV(p q:List Int×Int):dE q p = -dE p q:=by
 unfold dE;rw[GS p.2 q.2];have:=iL p.2 q.2;by_cases h:jF p.2 q.2=0
 ·rw[h,if_neg (by simp),if_neg (by simp)];exact y8 _ _
 ·rw[if_pos (by omega),if_pos h]
theorem fG(p q:List Int×Int):dE p q=0 ↔ p=q:=by
 constructor
 ·intro h;unfold dE at h;rcases iL p.2 q.2 with ⟨e,_⟩|⟨e,h2⟩|⟨e,_⟩
  ·rw[e] at h;simp at h
  ·rw[e,if_neg (by simp)] at h;exact Prod.ext (uQ _ _ h) h2
  ·rw[e] at h;simp at h
 ·rintro rfl;unfold dE;have:jF p.2 p.2=0:=by unfold jF;simp
  rw[this,if_neg (by simp)];exact uR _
theorem j8(p q r:List Int×Int)(h:dE p q≤0)(h':dE q r≤0):dE p r≤0:=by
 unfold dE at h h' ⊢;have t:=sD p.1 q.1 r.1;have c1:=iL p.2 q.2;have c2:=iL q.2 r.2;have c3:=iL p.2 r.2;split at h <;> split at h' <;> split <;> omega
end
end Go.Proofs.YtombncedfleljaaGreat
