import Derived.Test.YtjjlaipkkdncfaaGreatDoorMV6
import Derived.DeepKeys
import Derived.WideKeyArr
import Derived.DeepKeys2
import Derived.Maps.RangeWalk
set_option linter.unusedSimpArgs false
set_option maxRecDepth 100000
set_option maxHeartbeats 40000000
namespace Go.Proofs.YtjjlaipkkdncfaaGreatDoor
open Go.Proofs.Tryz
section
open Go.RowKit
attribute [local irreducible] wpQuiet wpAnyH
theorem uG{P:Program}{w:Wd}{fn:Func}{p u:Tmp}{ty D:TypeId}(h:fn.results=#[.cell p ty,.cell u D])(tmps:Wa){b I:Nat}{cs J:Wv}{d d':TypeDesc}(hp:tmps.getD p undef = .pointer (some ⟨b,0,none⟩))(U:tmps.getD u undef = .pointer (some ⟨I,0,none⟩))(hc:w.rangeAt b 0 cs)(K:w.rangeAt I 0 J)
  (hu:P.underlying ty=some d) (hd:d.isRow=true) (hi:(P.info? ty).map (·.size)=some cs.length) (V:P.underlying D=some d') (O:d'.isRow=true) (R:(P.info? D).map (·.size)=some J.length):(results fn tmps).run P w = .ok (.tuple #[.agg cs.toArray,.agg J.toArray]) w:=by
 have h1:tmps[p]?.getD undef = .pointer (some ⟨b,0,none⟩):=by simpa using hp
 have Z:tmps[u]?.getD undef = .pointer (some ⟨I,0,none⟩):=by simpa using U
 simp[results,h,h1,Z,asAddr,Sem.run_bind,Result.andThen,run_loadVar_mid w b 0 ty cs d hc hu hd hi,run_loadVar_mid w I 0 D J d' K V O R]
theorem B7(n:Nat)(w:Wd)(O:n<=1000000):
  Wc 67 #[.int .i64 n] w (Rt w (.tuple #[.agg #[.int .i64 0,.int .i64 ((n/2:Nat):Int)],.agg #[.int .i64 ((n/2:Nat):Int),.int .i64 ((n/2:Nat):Int)]])):=by
 have K:(n:Int)<=1000000:=by omega
 go_enter func67,ntmps67
 go_wp2_with fail
 have e:((n/2:Nat):Int)=(n:Int)/2:=by simp
 rw[e];have D:=(Blk.new w 138 #[.int .i64 0,.int .i64 ((n:Int)/2)]).alloc (.cells #[.int .i64 ((n:Int)/2),.int .i64 ((n:Int)/2)] 138);have I:=Blk.newAt (w.alloc (.cells #[.int .i64 0,.int .i64 ((n:Int)/2)] 138)) 138 #[.int .i64 ((n:Int)/2),.int .i64 ((n:Int)/2)] (w.heap.size+1) (by simp);have J:Bw w ((w.alloc (.cells #[.int .i64 0,.int .i64 ((n:Int)/2)] 138)).alloc (.cells #[.int .i64 ((n:Int)/2),.int .i64 ((n:Int)/2)] 138)):=((ji _ w).alloc (ja _) _).alloc (by simp) _;exact bodyPost_ret (uG rfl _ rfl rfl D.range I.range underlying138 rfl (by kernel_rfl) underlying138 rfl (by kernel_rfl)) rfl ⟨rfl,J⟩
end
section
open Go.RowKit
theorem G4{α β:Type}{f:α->Option β}{g:α->β}:∀ {L:List α},(∀ x∈L,f x=some (g x))->L.mapM f=some (L.map g)
 | [],_=>rfl
 | x :: L,h=>by
  rw[List.mapM_cons,h x (by simp),G4 (λy hy=>h y (by simp[hy]))];rfl
theorem QW(D:Nat)(n:Int)(h:0<=n/\n<=255):prog.keyLits (D+1) 5 [.int .u8 n]=some [.int .u8 n]:=by
 unfold Program.keyLits;rw[underlying5];have:(Lit.int .u8 n).wf=true:=by simp[Lit.wf,IntKind.min,IntKind.max,IntKind.signed,IntKind.bits];omega
 simp[this]
end
section
set_option maxRecDepth 100000
open Go.RowKit
def dv(d:Wl):Value:=.agg (u8s d).toArray
def dk(d:Wl):Lit:=.string (keyBytes (d.map (Lit.int .u8)))
theorem arrKey:WideMaps.ArrKey prog 24 5 32:=⟨underlying24,by kernel_rfl,by kernel_rfl,by kernel_rfl⟩
theorem keyed:Maps.Keyed prog 24:=Maps.Keyed.of_law arrKey.law
theorem G5{α β:Type}{f:α->Option β}:∀ {L:List α} {r:List β},L.mapM f=some r->r.length=L.length/\∀(i:Nat) (hi:i<L.length),∃ y,r[i]? = some y/\f L[i]=some y
 | [],r,h=>by
  obtain rfl:r=[]:=by simpa using h.symm
  exact⟨rfl,λi hi=>by simp at hi⟩
 | x :: L,r,h=>by
  rw[List.mapM_cons] at h;cases hx:f x with
  | none=>rw[hx] at h;simp at h
  | some y=>
   cases hL:L.mapM f with
   | none=>rw[hx,hL] at h;simp at h
   | some r'=>
    rw[hx,hL] at h;obtain rfl:y :: r'=r:=by simpa using h
    obtain⟨h1,D⟩:=G5 hL;refine⟨by simp[h1],λi hi=>?_⟩;cases i with
    | zero=>exact⟨y,rfl,hx⟩
    | succ i=>exact D i (by simpa using hi)
theorem B8(D:Nat)(c:Wv)(l:List Lit)(h:prog.keyLits D 5 c=some l):∃ n:Int,(0<=n/\n<=255)/\c=[.int .u8 n]/\l=[.int .u8 n]:=by
 cases D with
 | zero=>simp[Program.keyLits] at h
 | succ D=>
  unfold Program.keyLits at h;rw[underlying5] at h;rcases c with _|⟨v,_|⟨v2,c⟩⟩
  ·simp at h
  ·cases v <;> simp at h
   rename_i q n;obtain⟨⟨rfl,I⟩,rfl⟩:=h;have hb:0<=n/\n<=255:=by
    have:=I;simp[Lit.wf,IntKind.min,IntKind.max,IntKind.signed,IntKind.bits] at this;omega
   exact⟨n,hb,rfl,rfl⟩
  ·cases v <;> simp at h
theorem iX{d:Wl}(h:DigOk d):keyOf prog 24 (dv d)=some (dk d):=by
 have O:prog.keyType 24=true:=by kernel_rfl
 have U:prog.cellsOf 24=32:=by kernel_rfl
 have J:prog.cellsOf 5=1:=by kernel_rfl
 obtain⟨m,hm⟩:∃ m,prog.types.size=m+1:=⟨prog.types.size-1,by kernel_rfl⟩;have R:(u8s d).length=32:=by simp[u8s,h.len]
 have Z:(dv d).formed prog 24=true:=by
  unfold dv Value.formed;rw[underlying24];simp[U,R]
 unfold keyOf;rw[underlying24];simp only[O,Z,Bool.and_self,if_true];have key:prog.keyLits (prog.types.size+1) 24 (u8s d)=some (d.map (Lit.int .u8)):=by
  unfold Program.keyLits;rw[underlying24];simp only[U,R,J,if_true,Nat.mul_one];rw[G4 (g:=λi=>[Lit.int .u8 (d.getD i 0)]) (λi hi=>?_)]
  ·simp only[Option.map_some,Option.some.injEq];have K:((List.range 32).map λi=>[Lit.int .u8 (d.getD i 0)]).flatten=(List.range 32).map λi=>Lit.int .u8 (d.getD i 0):=by
    rw[<- List.flatMap_def,<- List.map_eq_flatMap]
   rw[K];apply List.ext_getElem
   ·simp[h.len]
   ·intro i h1 V;have hi:i<32:=by simpa [h.len] using V
    simp[show i<d.length by rw[h.len];exact hi]
  ·have hi:i<32:=by simpa using hi
   have D:i<d.length:=by rw[h.len];exact hi
   have e:((u8s d).drop i).take 1=[.int .u8 (d.getD i 0)]:=by
    have I:i<(u8s d).length:=by rw[R];exact hi
    rw[List.drop_eq_getElem_cons I];simp[u8s,D]
   rw[e,hm];exact QW m _ (h.byte _ (by simp[D]))
 show((prog.keyLits (prog.types.size+1) 24 (u8s d).toArray.toList).map λls=>Lit.string (keyBytes ls))=_;rw[jt,key];rfl
theorem qI{v:Value}{kl:Lit}(h:keyOf prog 24 v=some kl):∃ d,DigOk d/\v=dv d/\kl=dk d:=by
 have h0:=h;have hc:prog.cellsOf 24=32:=by kernel_rfl
 have V:prog.cellsOf 5=1:=by kernel_rfl
 unfold keyOf at h;rw[underlying24] at h;dsimp only at h;split at h
 ·rename_i hh;obtain⟨_,hf⟩:=(Bool.and_eq_true _ _).mp hh;obtain⟨cs,rfl⟩:∃ cs,v = .agg cs:=by
   cases v <;> simp[Value.formed,underlying24] at hf ⊢
  cases D:prog.keyLits (prog.types.size+1) 24 (Value.agg cs).cells.toList with
  | none=>rw[D] at h;simp at h
  | some ls=>
   have Z:(Value.agg cs).cells.toList=cs.toList:=rfl;rw[Z] at D;unfold Program.keyLits at D;rw[underlying24] at D;dsimp only at D;split at D
   ·rename_i I;rw[hc] at I;rw[V] at D;cases hm:(List.range 32).mapM λi=>prog.keyLits prog.types.size 5 ((cs.toList.drop (i*1)).take 1) with
    | none=>rw[hm] at D;simp at D
    | some r=>
     obtain⟨_,U⟩:=G5 hm;have J:∀(i:Nat) (hi:i<cs.toList.length),∃ n:Int,(0<=n/\n<=255)/\cs.toList[i] = .int .u8 n:=by
      intro i hi;obtain⟨y,_,hy⟩:=U i (by simpa [I] using hi);obtain⟨n,hn,O,_⟩:=B8 _ _ _ hy;rw[List.getElem_range,Nat.mul_one,List.drop_eq_getElem_cons hi] at O;exact⟨n,hn,by simpa using O⟩
     obtain⟨d,hd,a0⟩:∃ d:Wl,cs.toList=u8s d/\∀ b∈d,0<=b/\b<=255:=by
      have key:∀ l:Wv,(∀(i:Nat) (hi:i<l.length),∃ n:Int,(0<=n/\n<=255)/\l[i] = .int .u8 n)->∃ d:Wl,l=u8s d/\∀ b∈d,0<=b/\b<=255:=by
       intro l;induction l with
       | nil=>exact λ_=>⟨[],rfl,λb hb=>by simp at hb⟩
       | cons c l ih=>
        intro D;obtain⟨n,hn,K⟩:=D 0 (by simp);have K:c = .int .u8 n:=K;subst K;obtain⟨d,rfl,hd⟩:=ih (λi hi=>D (i+1) (by simpa using hi));exact⟨n :: d,rfl,λb hb=>by
         rcases List.mem_cons.1 hb with rfl|hb
         ·exact hn
         ·exact hd b hb⟩
      exact key _ J
     have R:DigOk d:=⟨by have:=congrArg List.length hd;simp[u8s] at this;rw[<- this];simpa using I,a0⟩;have hv:Value.agg cs=dv d:=by unfold dv;rw[<- hd]
     refine⟨d,R,hv,?_⟩;rw[hv,iX R] at h0;exact(Option.some.inj h0).symm
   ·cases D
 ·cases h
theorem y9{d d':Wl}(h:DigOk d)(D:DigOk d')(e:dk d=dk d'):d=d':=by
 have J:=keyed.inj (iX h) (by rw[iX D,e]);have h1:(u8s d).toArray=(u8s d').toArray:=Value.agg.inj J;have I:u8s d=u8s d':=by simpa using h1
 have key:∀ a b:Wl,u8s a=u8s b->a=b:=by
  intro a;induction a with
  | nil=>intro b hb;cases b with
   | nil=>rfl
   | cons=>simp[u8s] at hb
  | cons x a ih=>intro b hb;cases b with
   | nil=>simp[u8s] at hb
   | cons y b=>
    simp only[u8s,List.map_cons,List.cons.injEq,Value.int.injEq,true_and] at hb;obtain⟨rfl,hb⟩:=hb;rw[ih b hb]
 exact key _ _ I
theorem zA(d:Wl):WideAt.IsKeyLit (dk d):=trivial
end
section
set_option maxRecDepth 100000
open Go.RowKit
noncomputable def R64:Value->Option (DataW Unit×List MemPlace):=plainElem prog 2
def Fits(D:DataW Unit)(f:Wl->Option Int)(c:Nat):Prop:=
 Maps.size D=c/\∀ d,DigOk d->match f d with
  | none=>Maps.has D (dk d)=false
  | some t=>aI t/\Maps.has D (dk d)=true/\∀ z,D.atKey (dk d) z = .lit (.int .i64 t)
def DM(w:Wd)(b n:Nat)(f:Wl->Option Int)(c:Nat):Prop:=∃ D,w.ownsMap prog 24 R64 b n D/\Fits D f c
def upd(f:Wl->Option Int)(d:Wl)(t:Int):Wl->Option Int:=λx=>if x=d then some t else f x
def cut(f:Wl->Option Int)(d:Wl):Wl->Option Int:=λx=>if x=d then none else f x
theorem DM.le{w:Wd}{b n c:Nat}{f:Wl->Option Int}(h:DM w b n f c):c<=n:=by
 obtain⟨D,h,hs,_⟩:=h;rw[<- hs];exact h.size_le
theorem DM.i64{w:Wd}{b n c:Nat}{f:Wl->Option Int}(h:DM w b n f c){d:Wl}{t:Int}(hd:DigOk d)(I:f d=some t):aI t:=by
 obtain⟨D,_,_,h⟩:=h;have:=h d hd;rw[I] at this;exact this.1
theorem DM.lt{w:Wd}{b n c:Nat}{f:Wl->Option Int}(h:DM w b n f c):b<w.heap.size:=by
 obtain⟨D,⟨K,clock,hb,_⟩,_⟩:=h;rcases jo b w.heap.size with J|I
 ·exact J
 ·rw[Array.getElem?_eq_none I] at hb;cases hb
theorem DM.of_block{w w':Wd}{b n c:Nat}{f:Wl->Option Int}(h:DM w b n f c)(e:w'.heap[b]? = w.heap[b]?):DM w' b n f c:=by
 obtain⟨D,⟨I,clock,hb,r⟩,J⟩:=h;exact⟨D,⟨I,clock,e.trans hb,r⟩,J⟩
theorem DM.keep{w w':Wd}{b n c:Nat}{f:Wl->Option Int}(h:DM w b n f c)(hb:Bw w w'):DM w' b n f c:=h.of_block (hb.block b h.lt)
theorem DM.mono{w:Wd}{b n m c:Nat}{f:Wl->Option Int}(h:DM w b n f c)(R:n<=m):DM w b m f c:=by
 obtain⟨D,⟨I,clock,hb,h1,J,K⟩,O⟩:=h;exact⟨D,⟨I,clock,hb,h1,jm J R,K⟩,O⟩
theorem DM.made(w:Wd):DM (w.alloc (.map #[] 0)) w.heap.size 0 (λ_=>none) 0:=
 ⟨.map [],World.ownsMap_made _ _ _ _,rfl,λ_ _=>rfl⟩
theorem Fits.put{D:DataW Unit}{f:Wl->Option Int}{c:Nat}(h:Fits D f c)(K:Maps.Tidy D){d:Wl}(hd:DigOk d){t:Int}(ht:aI t):
  Fits (D.put (dk d) (.lit (.int .i64 t))) (upd f d t) (if (f d).isSome then c else c+1):=by
 obtain⟨hs,O⟩:=h;have J:Maps.has D (dk d)=(f d).isSome:=by
  have:=O d hd;cases hfd:f d with
  | none=>rw[hfd] at this;exact this
  | some t=>rw[hfd] at this;exact this.2.1
 refine⟨by rw[Maps.size_put K,J,hs],λx R=>?_⟩;unfold upd;by_cases hxd:x=d
 ·subst hxd;rw[jP rfl];exact⟨ht,Maps.has_put_same K.isMap (zA x) _,λz=>Maps.atKey_put_same K.isMap (zA x) _ z⟩
 ·rw[jQ hxd];have I:dk x≠dk d:=λe=>hxd (y9 R hd e)
  have:=O x R;cases hfx:f x with
  | none=>rw[hfx] at this;exact(Maps.has_put_other I _).trans this
  | some t'=>
   rw[hfx] at this;exact⟨this.1,(Maps.has_put_other I _).trans this.2.1,λz=>(Maps.atKey_put_other I _ z).trans (this.2.2 z)⟩
theorem Fits.del{D:DataW Unit}{f:Wl->Option Int}{c:Nat}(h:Fits D f c)(U:Maps.Tidy D){d:Wl}(hd:DigOk d):
  ∃ K,Fits (D.del (dk d)) (cut f d) K/\K+(if (f d).isSome then 1 else 0)=c:=by
 obtain⟨hs,O⟩:=h;have J:Maps.has D (dk d)=(f d).isSome:=by
  have:=O d hd;cases hfd:f d with
  | none=>rw[hfd] at this;exact this
  | some t=>rw[hfd] at this;exact this.2.1
 refine⟨_,⟨rfl,λx R=>?_⟩,by rw[<- J,Maps.size_del U,hs]⟩;unfold cut;by_cases hxd:x=d
 ·subst hxd;rw[jP rfl];exact Maps.has_del_same
 ·rw[jQ hxd];have I:dk x≠dk d:=λe=>hxd (y9 R hd e)
  have:=O x R;cases hfx:f x with
  | none=>rw[hfx] at this;exact(Maps.has_del_other I).trans this
  | some t'=>
   rw[hfx] at this;exact⟨this.1,(Maps.has_del_other I).trans this.2.1,λz=>(Maps.atKey_del_other I z).trans (this.2.2 z)⟩
theorem Fits.has{D:DataW Unit}{f:Wl->Option Int}{c:Nat}(h:Fits D f c){d:Wl}(hd:DigOk d):Maps.has D (dk d)=(f d).isSome:=by
 have:=h.2 d hd;cases hfd:f d with
 | none=>rw[hfd] at this;exact this
 | some t=>rw[hfd] at this;exact this.2.1
theorem DM.look{w:Wd}{b n c:Nat}{f:Wl->Option Int}{tM:TypeId}(ht:prog.underlying tM=some (.map 24 2))(h:DM w b n f c){d:Wl}(hd:DigOk d):
  (Instr.lookup tM (.map (some b)) (.agg (u8s d).toArray) true).run prog w = .ok (.tuple #[.int .i64 ((f d).getD 0),.bool (f d).isSome]) w:=by
 obtain⟨D,J,K⟩:=h;obtain⟨v,ps,hrun,O⟩:=J.look_ok keyed ht (z:=.int .i64 0) (by kernel_rfl) (zd:=.lit (.int .i64 0)) (zp:=[]) (plainElem_int underlying2 (by decide)) (iX hd);obtain⟨x,rfl,I,_⟩:=plainElem_int_inv underlying2 O;have I:=congrArg Prod.fst I;dsimp only at I;rw[K.has hd] at hrun;have:=K.2 d hd;cases hfd:f d with
 | none=>
  rw[hfd] at this hrun;rw[Maps.atKey_of_not_has this] at I;obtain rfl:x=0:=by simpa using I.symm
  exact hrun
 | some t=>
  rw[hfd] at this hrun;rw[this.2.2] at I;obtain rfl:x=t:=by simpa using I.symm
  exact hrun
theorem DM.put_run{w:Wd}{b n c:Nat}{f:Wl->Option Int}{tM:TypeId}(ht:prog.underlying tM=some (.map 24 2))(h:DM w b n f c){d:Wl}(hd:DigOk d){t:Int}(J:aI t)(U:n<maxLen):
  ∃ w',(Instr.mapUpdate tM (.map (some b)) (.agg (u8s d).toArray) (.int .i64 t)).run prog w = .ok () w'/\DM w' b (n+1) (upd f d t) (if (f d).isSome then c else c+1)/\w.grownBy w' (some b):=by
 obtain⟨D,I,R⟩:=h;obtain⟨w',hrun,O,K⟩:=I.update keyed ht U (iX hd) (val:=.int .i64 t) (d:=.lit (.int .i64 t)) (ps:=[]) (plainElem_int underlying2 (LP J));exact⟨w',hrun,⟨_,O,R.put (I.tidy keyed) hd J⟩,K⟩
def DR(w:Wd)(b r n:Nat)(f:Wl->Option Int)(c:Nat)(left:Wl->Bool)(cnt:Nat):Prop:=
 ∃ D l,w.ranges prog 24 R64 b r n D l cnt/\Fits D f c/\∀ d,DigOk d->l (dk d)=left d
theorem DR.owns{w:Wd}{b r n c cnt:Nat}{f:Wl->Option Int}{left:Wl->Bool}(h:DR w b r n f c left cnt):DM w b n f c:=by
 obtain⟨D,l,h,I,_⟩:=h;exact⟨D,h.owns,I⟩
theorem DR.of_blocks{w w':Wd}{b r n c cnt:Nat}{f:Wl->Option Int}{left:Wl->Bool}(h:DR w b r n f c left cnt)(e:w'.heap[b]? = w.heap[b]?)(K:w'.heap[r]? = w.heap[r]?):DR w' b r n f c left cnt:=by
 obtain⟨D,l,⟨O,clock,I,J,c0,hb,h1,R,U,hr,V⟩,Z⟩:=h;exact⟨D,l,⟨O,clock,I,J,c0,e.trans hb,h1,R,U,K.trans hr,V⟩,Z⟩
theorem DR.lt{w:Wd}{b r n c cnt:Nat}{f:Wl->Option Int}{left:Wl->Bool}(h:DR w b r n f c left cnt):r<w.heap.size/\r≠b:=by
 obtain⟨D,l,h,_⟩:=h;exact⟨h.lt,h.ne⟩
theorem DR.keep{w w':Wd}{b r n c cnt:Nat}{f:Wl->Option Int}{left:Wl->Bool}(h:DR w b r n f c left cnt)(hb:Bw w w'):DR w' b r n f c left cnt:=
 h.of_blocks (hb.block b h.owns.lt) (hb.block r h.lt.1)
theorem DR.left_eq{w:Wd}{b r n c cnt:Nat}{f:Wl->Option Int}{left:Wl->Bool}(h:DR w b r n f c left cnt):w.rangeLeft b r=cnt:=by
 obtain⟨D,l,h,_⟩:=h;exact h.left_eq
theorem DM.congr{w:Wd}{b n c:Nat}{f f':Wl->Option Int}(h:DM w b n f c)(e:∀ d,DigOk d->f d=f' d):DM w b n f' c:=by
 obtain⟨D,h,hs,I⟩:=h;exact⟨D,h,hs,λd hd=>by rw[<- e d hd];exact I d hd⟩
section
variable {ops : Array Oper} {rest : List Oper} {o : Oper} {a : Act} {w : Wd} {Q : Exit -> Act -> Wd -> Prop} {tM : TypeId} (ht : prog.underlying tM = some (.map 24 2))
include ht
theorem MM(hg:o.guard=none)(m:Operand)(O:o.op=Op.range tM m){b n c:Nat}{f:Wl->Option Int}(Z:a.eval m = .map (some b))(h:DM w b n f c)
  (V:∀ w',DR w' b w.heap.size n f c (λd=>(f d).isSome) c->w.grownBy w' none->w'.heap.size=w.heap.size+1->wpList prog ops Q rest (a.put o.dst (.pointer (some ⟨w.heap.size,0,none⟩))) w'):wpList prog ops Q (o :: rest) a w:=by
 obtain⟨D,I,J⟩:=h;refine wpList_range_own w hg m tM O 24 2 keyed ht R64 b n D Z I λw' U K R=>?_
 rw[J.1] at U;exact V w' ⟨D,_,U,J,λd hd=>J.has hd⟩ K R
omit ht in
theorem TI(hg:o.guard=none)(it:Operand)(a5:o.op=Op.next it false){b r n c cnt:Nat}{f:Wl->Option Int}{left:Wl->Bool}(a2:a.eval it = .pointer (some ⟨r,0,none⟩))(h:DR w b r n f c left cnt)
  (K:cnt=0->(∀ d,DigOk d->left d=false)->wpList prog ops Q rest (a.put o.dst (.tuple #[.bool false])) w)
  (O:∀(d:Wl) (t:Int) (w':Wd) (I:Nat),DigOk d->aI t->left d=true->f d=some t->DR w' b r n f c (λx=>left x && !(x == d)) I->I<cnt->w.grownBy w' (some r)->w'.heap.size=w.heap.size ->
   (Instr.entry (.pointer (some ⟨r,0,none⟩))).run prog w' = .ok (.tuple #[.agg (u8s d).toArray,.int .i64 t]) w'->wpList prog ops Q rest (a.put o.dst (.tuple #[.bool true,.agg (u8s d).toArray,.int .i64 t])) w'):wpList prog ops Q (o :: rest) a w:=by
 obtain⟨D,l,hr,hf,hl⟩:=h;refine wpList_next_ranges w hg it a5 24 keyed R64 dv (Value.int .i64) (λkey kl hk=>?_) (λv y hv=>?_) b r n D l cnt a2 hr (λh0 R=>K h0 λd hd=>by rw[<- hl d hd];exact R _) λd t kl y w' I V a3 hv U a6 a4 a1 a7 a0=>?_
 ·obtain⟨d,_,rfl,_⟩:=qI hk;exact⟨d,rfl⟩
 ·obtain⟨t,rfl,_⟩:=plainElem_int_inv underlying2 hv;exact⟨t,rfl⟩
 ·obtain⟨d',hd,Z,rfl⟩:=qI V;obtain rfl:d=d':=by
   have h1:(u8s d).toArray=(u8s d').toArray:=Value.agg.inj Z;have h2:u8s d=u8s d':=by simpa using h1
   have:=congrArg (List.map λv:Value=>match v with | .int _ n=>n|_=>0) h2;simpa [u8s,Function.comp_def] using this
  obtain⟨t',a8,hy,hw⟩:=plainElem_int_inv underlying2 hv;obtain rfl:t=t':=by simpa using a8
  subst hy;have J:f d=some t:=by
   have:=hf.2 d hd;cases J:f d with
   | none=>
    rw[J] at this;have h1:=U .nil;rw[Maps.atKey_of_not_has this] at h1;cases h1
   | some t'=>
    rw[J] at this;have h1:=(U .nil).symm.trans (this.2.2 .nil);obtain rfl:t=t':=by simpa using h1
    rfl
  refine O d t w' I hd (kU hw) (by rw[<- hl d hd];exact a3) J ⟨D,_,a6,hf,λx hx=>?_⟩ a4 a1 a7 a0;show(l (dk x) && !(dk x).sameKey (dk d))=_;rw[hl x hx];by_cases hxd:x=d
  ·subst hxd;simp[WideAt.sameKey_self (zA x)]
  ·rw[Maps.sameKey_ne (λe=>hxd (y9 hx hd e))];simp[hxd]
theorem QX{K:Act->Wd->Prop}{E:Prop}(m x:Operand)(a0:o.op=Op.call { callee:=Callee.builtin Builtin.delete,args:=#[m,x],argTypes:=#[tM,24] })(hw:Region.wanted o (yielded ops a.tmps)=true){b r n c cnt:Nat}{f:Wl->Option Int}{left:Wl->Bool}
  (hm:a.eval m = .map (some b)) (h:DR w b r n f c left cnt) {d:Wl} (hd:DigOk d) (R:a.eval x = .agg (u8s d).toArray)
  (hK:∀ w' O I,DR w' b r n (cut f d) O (λx=>left x && !(x == d)) I->O+(if (f d).isSome then 1 else 0)=c->I<=cnt->w.mapTurned w' b->K (a.put o.dst (.tuple #[])) w'):
  if Region.wanted o (yielded ops a.tmps)=true then Oper.wp prog o a w K Q else E:=by
 rw[jP hw];obtain⟨D,l,hr,hf,hl⟩:=h;obtain⟨w',I,hrun,a1,Z,J⟩:=hr.drop keyed ht (iX hd) o.type;obtain⟨O,V,U⟩:=hf.del (hr.owns.tidy keyed) hd;have a2:a.eval x=dv d:=R;unfold Oper.wp;simp[execOp,a0,resolve,invoke,builtin,hm,a2,hrun,Result.andThen];refine hK w' O I ⟨_,_,a1,V,λx R=>?_⟩ U Z J;show(l (dk x) && !(dk x).sameKey (dk d))=_;rw[hl x R];by_cases hxd:x=d
 ·subst hxd;simp[WideAt.sameKey_self (zA x)]
 ·rw[Maps.sameKey_ne (λe=>hxd (y9 R hd e))];simp[hxd]
end
end
end Go.Proofs.YtjjlaipkkdncfaaGreatDoor
