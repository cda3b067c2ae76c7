import Derived.Test.YtiaigidbcljblaaGreatDoorMS7
import Derived.Test.YtiaigidbcljblaaGreatDoorMS6
import Derived.DeepKeys
import Derived.WideKeyArr
import Derived.DeepKeys2
import Derived.Maps.RangeWalk
import Derived.Lib.Bytealg
import Derived.Lib.BytesEntry
set_option linter.unusedVariables false
set_option linter.unusedSimpArgs false
set_option maxRecDepth 100000
set_option maxHeartbeats 40000000
namespace Go.Proofs.YtiaigidbcljblaaGreatDoor
open Go.Proofs.Tryz
section
open Go.RowKit
attribute [local irreducible] wpQuiet wpAnyH
theorem vY{P:Program}{w:Wd}{fn:Func}{p u:Tmp}{ty j:TypeId}(h:fn.results=#[.cell p ty,.cell u j])(tmps:Wa){b x:Nat}{cs D:Wv}{d d':TypeDesc}(Z:tmps.getD p undef = .pointer (some ⟨b,0,none⟩))(O:tmps.getD u undef = .pointer (some ⟨x,0,none⟩))(V:w.rangeAt b 0 cs)(I:w.rangeAt x 0 D)
  (hu:P.underlying ty=some d) (hd:d.isRow=true) (hi:(P.info? ty).map (·.size)=some cs.length) (R:P.underlying j=some d') (J:d'.isRow=true) (K:(P.info? j).map (·.size)=some D.length):(results fn tmps).run P w = .ok (.tuple #[.agg cs.toArray,.agg D.toArray]) w:=by
 have h1:tmps[p]?.getD undef = .pointer (some ⟨b,0,none⟩):=by simpa using Z
 have U:tmps[u]?.getD undef = .pointer (some ⟨x,0,none⟩):=by simpa using O
 simp[results,h,h1,U,asAddr,Sem.run_bind,Result.andThen,run_loadVar_mid w b 0 ty cs d V hu hd hi,run_loadVar_mid w x 0 j D d' I R J K]
theorem EB(n:Nat)(w:Wd)(J:n<=1000000):
  Wc 202 #[.int .i64 n] w (Rt w (.tuple #[.agg #[.int .i64 0,.int .i64 ((n/2:Nat):Int)],.agg #[.int .i64 ((n/2:Nat):Int),.int .i64 ((n/2:Nat):Int)]])):=by
 have I:(n:Int)<=1000000:=by omega
 go_enter func202,ntmps202
 go_wp2_with fail
 have e:((n/2:Nat):Int)=(n:Int)/2:=by simp
 rw[e];have j:=(Blk.new w 324 #[.int .i64 0,.int .i64 ((n:Int)/2)]).alloc (.cells #[.int .i64 ((n:Int)/2),.int .i64 ((n:Int)/2)] 324);have x:=Blk.newAt (w.alloc (.cells #[.int .i64 0,.int .i64 ((n:Int)/2)] 324)) 324 #[.int .i64 ((n:Int)/2),.int .i64 ((n:Int)/2)] (w.heap.size+1) (by simp);have D:Bw w ((w.alloc (.cells #[.int .i64 0,.int .i64 ((n:Int)/2)] 324)).alloc (.cells #[.int .i64 ((n:Int)/2),.int .i64 ((n:Int)/2)] 324)):=((ji _ w).alloc (ja _) _).alloc (by simp) _;exact bodyPost_ret (vY rfl _ rfl rfl j.range x.range underlying324 rfl (by kernel_rfl) underlying324 rfl (by kernel_rfl)) rfl ⟨rfl,D⟩
end
section
open Go.RowKit
section
variable {P : Program} {ops : Array Oper} {Q : Exit -> Act -> Wd -> Prop} {S : Wd -> Prop} {a : Act} {w : Wd} {listed : Array Bool} {fuel : Nat}
def kTwo(ops:Array Oper)(listed:Array Bool)(i j:Nat):Bool:=
 (Region.ready .any ops listed == [i,j]) && ((ops[i]?).map (λo=>o.guard.isNone)).any (· == true) && ((ops[j]?).map (λo=>o.guard.isNone)).any (· == true)
theorem sY{o:Oper}(h:o.guard=none)(j:Wa):Region.wanted o (yielded ops j)=true:=by
 unfold Region.wanted;rw[h]
theorem kTwo.out{i j:Nat}{x D:Oper}(hi:ops[i]? = some x)(I:ops[j]? = some D)(h:kTwo ops listed i j=true):
  Region.ready .any ops listed=[i,j]/\x.guard=none/\D.guard=none:=by
 unfold kTwo at h;simp only[Bool.and_eq_true,hi,I,Option.map_some,Option.any_some,beq_iff_eq,Option.isNone_iff_eq_none] at h;exact⟨h.1.1,h.1.2,h.2⟩
theorem vZ{ty:TypeId}{zs:Wa}(x:∀ w,(zeroValue ty).run P w = .ok (.agg zs) w){o:Oper}(j:o.op = .alloc ty)(e:Operand->Value)(w:Wd):
  (execOp e o).run P w = .ok (.value (.pointer (some ⟨w.heap.size,0,none⟩))) (w.alloc (.cells zs ty)):=by
 unfold execOp;simp only[j];unfold Instr.alloc newVar newRow;simp only[Sem.run_bind,x,Result.andThen_ok];rfl
theorem kCA(i j:Nat)(V Z:Option Tmp){R U:Oper}{f:FuncId}{args zs:Wa}{ty:TypeId}
  (hz:∀ w,(zeroValue ty).run P w = .ok (.agg zs) w)
  (h1:Calls P f args w λe w'=>∃ v,e = .returned v/\S w'/\(S w'->wpAnyH P .any ops Q S fuel (listed.setIfInBounds i true) (a.put V v) w'))
  (hS:S (w.alloc (.cells zs ty)))
  (h2:wpAnyH P .any ops Q S fuel (listed.setIfInBounds j true) (a.put Z (.pointer (some ⟨w.heap.size,0,none⟩))) (w.alloc (.cells zs ty)))
  (hi:ops[i]? = some R:=by rfl) (hj:ops[j]? = some U:=by rfl) (I:R.dst=V:=by rfl) (J:U.dst=Z:=by rfl) (O:U.op = .alloc ty:=by rfl) (hc:kTwo ops listed i j=true:=by kernel_rfl)
  (hent:∀ w,(execOp a.eval R).run P w = .ok (.enter f args) w:=by intro w;unfold execOp;go_simp):wpAnyH P .any ops Q S (fuel+1) listed a w:=by
 subst I J;obtain⟨r0,gi,gj⟩:=kTwo.out hi hj hc;refine wpAnyH_ready r0 (by simp) (AllReadyH.cons hi (λK x=>?_) (AllReadyH.cons hj (λK x=>?_) jN))
 ·rw[jP (sY gi _)];unfold Oper.wp;rw[hent,Oper.upon_enter];refine h1.mono ?_;rintro e w' ⟨v,rfl,D,hk⟩;exact x _ _ D hk
 ·rw[jP (sY gj _)];unfold Oper.wp;rw[vZ hz O,Oper.upon_value];exact x _ _ hS (λ_=>h2)
theorem kA(i:Nat)(dst:Option Tmp){zs:Wa}{ty:TypeId}(O:∀ w,(zeroValue ty).run P w = .ok (.agg zs) w)(hS:S (w.alloc (.cells zs ty)))
  (h:wpAnyH P .any ops Q S fuel (listed.setIfInBounds i true) (a.put dst (.pointer (some ⟨w.heap.size,0,none⟩))) (w.alloc (.cells zs ty)))
  {o:Oper} (D:ops[i]? = some o:=by rfl) (j:o.dst=dst:=by rfl) (x:o.op = .alloc ty:=by rfl) (J:kOne ops listed a i=true:=by kernel_rfl):wpAnyH P .any ops Q S (fuel+1) listed a w:=by
 subst j;have k:=kOne.out D J;refine wpAnyH_ready k.1 (by simp) (AllReadyH.cons D (λK I=>?_) jN);rw[jP k.2];unfold Oper.wp;rw[vZ O x,Oper.upon_value];exact I _ _ hS (λ_=>h)
end
end
section
open Go.RowKit
theorem KP{α β:Type}{f:α->Option β}{g:α->β}:∀ {L:List α},(∀ x∈L,f x=some (g x))->L.mapM f=some (L.map g)
 | [],_=>rfl
 | x :: L,h=>by
  rw[List.mapM_cons,h x (by simp),KP (λy hy=>h y (by simp[hy]))];rfl
theorem UL(D:Nat)(n:Int)(h:0<=n/\n<=255):prog.keyLits (D+1) 5 [.int .u8 n]=some [.int .u8 n]:=by
 unfold Program.keyLits;rw[underlying5];have:(Lit.int .u8 n).wf=true:=by simp[Lit.wf,IntKind.min,IntKind.max,IntKind.signed,IntKind.bits];omega
 simp[this]
end
section
set_option maxRecDepth 100000
open Go.RowKit
def dv(d:Wl):Value:=.agg (u8s d).toArray
def dk(d:Wl):Lit:=.string (keyBytes (d.map (Lit.int .u8)))
theorem arrKey:WideMaps.ArrKey prog 26 5 32:=⟨underlying26,by kernel_rfl,by kernel_rfl,by kernel_rfl⟩
theorem keyed:Maps.Keyed prog 26:=Maps.Keyed.of_law arrKey.law
theorem KQ{α β:Type}{f:α->Option β}:∀ {L:List α} {r:List β},L.mapM f=some r->r.length=L.length/\∀(i:Nat) (hi:i<L.length),∃ y,r[i]? = some y/\f L[i]=some y
 | [],r,h=>by
  obtain rfl:r=[]:=by simpa using h.symm
  exact⟨rfl,λi hi=>by simp at hi⟩
 | x :: L,r,h=>by
  rw[List.mapM_cons] at h;cases hx:f x with
  | none=>rw[hx] at h;simp at h
  | some y=>
   cases hL:L.mapM f with
   | none=>rw[hx,hL] at h;simp at h
   | some r'=>
    rw[hx,hL] at h;obtain rfl:y :: r'=r:=by simpa using h
    obtain⟨h1,j⟩:=KQ hL;refine⟨by simp[h1],λi hi=>?_⟩;cases i with
    | zero=>exact⟨y,rfl,hx⟩
    | succ i=>exact j i (by simpa using hi)
theorem EC(D:Nat)(c:Wv)(l:List Lit)(h:prog.keyLits D 5 c=some l):∃ n:Int,(0<=n/\n<=255)/\c=[.int .u8 n]/\l=[.int .u8 n]:=by
 cases D with
 | zero=>simp[Program.keyLits] at h
 | succ D=>
  unfold Program.keyLits at h;rw[underlying5] at h;rcases c with _|⟨v,_|⟨v2,c⟩⟩
  ·simp at h
  ·cases v <;> simp at h
   rename_i q n;obtain⟨⟨rfl,j⟩,rfl⟩:=h;have hb:0<=n/\n<=255:=by
    have:=j;simp[Lit.wf,IntKind.min,IntKind.max,IntKind.signed,IntKind.bits] at this;omega
   exact⟨n,hb,rfl,rfl⟩
  ·cases v <;> simp at h
theorem kP{d:Wl}(h:DigOk d):keyOf prog 26 (dv d)=some (dk d):=by
 have J:prog.keyType 26=true:=by kernel_rfl
 have O:prog.cellsOf 26=32:=by kernel_rfl
 have D:prog.cellsOf 5=1:=by kernel_rfl
 obtain⟨m,V⟩:∃ m,prog.types.size=m+1:=⟨prog.types.size-1,by kernel_rfl⟩;have K:(u8s d).length=32:=by simp[u8s,h.len]
 have U:(dv d).formed prog 26=true:=by
  unfold dv Value.formed;rw[underlying26];simp[O,K]
 unfold keyOf;rw[underlying26];simp only[J,U,Bool.and_self,if_true];have key:prog.keyLits (prog.types.size+1) 26 (u8s d)=some (d.map (Lit.int .u8)):=by
  unfold Program.keyLits;rw[underlying26];simp only[O,K,D,if_true,Nat.mul_one];rw[KP (g:=λi=>[Lit.int .u8 (d.getD i 0)]) (λi hi=>?_)]
  ·simp only[Option.map_some,Option.some.injEq];have I:((List.range 32).map λi=>[Lit.int .u8 (d.getD i 0)]).flatten=(List.range 32).map λi=>Lit.int .u8 (d.getD i 0):=by
    rw[<- List.flatMap_def,<- List.map_eq_flatMap]
   rw[I];apply List.ext_getElem
   ·simp[h.len]
   ·intro i h1 R;have hi:i<32:=by simpa [h.len] using R
    simp[show i<d.length by rw[h.len];exact hi]
  ·have hi:i<32:=by simpa using hi
   have j:i<d.length:=by rw[h.len];exact hi
   have e:((u8s d).drop i).take 1=[.int .u8 (d.getD i 0)]:=by
    have x:i<(u8s d).length:=by rw[K];exact hi
    rw[List.drop_eq_getElem_cons x];simp[u8s,j]
   rw[e,V];exact UL m _ (h.byte _ (by simp[j]))
 show((prog.keyLits (prog.types.size+1) 26 (u8s d).toArray.toList).map λZ=>Lit.string (keyBytes Z))=_;rw[jt,key];rfl
theorem rW{v:Value}{kl:Lit}(h:keyOf prog 26 v=some kl):∃ d,DigOk d/\v=dv d/\kl=dk d:=by
 have h0:=h;have hc:prog.cellsOf 26=32:=by kernel_rfl
 have R:prog.cellsOf 5=1:=by kernel_rfl
 unfold keyOf at h;rw[underlying26] at h;dsimp only at h;split at h
 ·rename_i hh;obtain⟨_,hf⟩:=(Bool.and_eq_true _ _).mp hh;obtain⟨cs,rfl⟩:∃ cs,v = .agg cs:=by
   cases v <;> simp[Value.formed,underlying26] at hf ⊢
  cases j:prog.keyLits (prog.types.size+1) 26 (Value.agg cs).cells.toList with
  | none=>rw[j] at h;simp at h
  | some ls=>
   have U:(Value.agg cs).cells.toList=cs.toList:=rfl;rw[U] at j;unfold Program.keyLits at j;rw[underlying26] at j;dsimp only at j;split at j
   ·rename_i x;rw[hc] at x;rw[R] at j;cases hm:(List.range 32).mapM λi=>prog.keyLits prog.types.size 5 ((cs.toList.drop (i*1)).take 1) with
    | none=>rw[hm] at j;simp at j
    | some r=>
     obtain⟨_,O⟩:=KQ hm;have D:∀(i:Nat) (hi:i<cs.toList.length),∃ n:Int,(0<=n/\n<=255)/\cs.toList[i] = .int .u8 n:=by
      intro i hi;obtain⟨y,_,hy⟩:=O i (by simpa [x] using hi);obtain⟨n,Z,J,_⟩:=EC _ _ _ hy;rw[List.getElem_range,Nat.mul_one,List.drop_eq_getElem_cons hi] at J;exact⟨n,Z,by simpa using J⟩
     obtain⟨d,hd,V⟩:∃ d:Wl,cs.toList=u8s d/\∀ b∈d,0<=b/\b<=255:=by
      have key:∀ l:Wv,(∀(i:Nat) (hi:i<l.length),∃ n:Int,(0<=n/\n<=255)/\l[i] = .int .u8 n)->∃ d:Wl,l=u8s d/\∀ b∈d,0<=b/\b<=255:=by
       intro l;induction l with
       | nil=>exact λ_=>⟨[],rfl,λb hb=>by simp at hb⟩
       | cons c l ih=>
        intro j;obtain⟨n,Z,I⟩:=j 0 (by simp);have I:c = .int .u8 n:=I;subst I;obtain⟨d,rfl,hd⟩:=ih (λi hi=>j (i+1) (by simpa using hi));exact⟨n :: d,rfl,λb hb=>by
         rcases List.mem_cons.1 hb with rfl|hb
         ·exact Z
         ·exact hd b hb⟩
      exact key _ D
     have K:DigOk d:=⟨by have:=congrArg List.length hd;simp[u8s] at this;rw[<- this];simpa using x,V⟩;have hv:Value.agg cs=dv d:=by unfold dv;rw[<- hd]
     refine⟨d,K,hv,?_⟩;rw[hv,kP K] at h0;exact(Option.some.inj h0).symm
   ·cases j
 ·cases h
theorem BR{d d':Wl}(h:DigOk d)(j:DigOk d')(e:dk d=dk d'):d=d':=by
 have I:=keyed.inj (kP h) (by rw[kP j,e]);have h1:(u8s d).toArray=(u8s d').toArray:=Value.agg.inj I;have D:u8s d=u8s d':=by simpa using h1
 have key:∀ a b:Wl,u8s a=u8s b->a=b:=by
  intro a;induction a with
  | nil=>intro b hb;cases b with
   | nil=>rfl
   | cons=>simp[u8s] at hb
  | cons x a ih=>intro b hb;cases b with
   | nil=>simp[u8s] at hb
   | cons y b=>
    simp only[u8s,List.map_cons,List.cons.injEq,Value.int.injEq,true_and] at hb;obtain⟨rfl,hb⟩:=hb;rw[ih b hb]
 exact key _ _ D
theorem BS(d:Wl):WideAt.IsKeyLit (dk d):=trivial
end
section
open Go.RowKit
attribute [local irreducible] wpQuiet wpAnyH
def sboxL:List Nat:=[99,124,119,123,242,107,111,197,48,1,103,43,254,215,171,118,202,130,201,125,250,89,71,240,173,212,162,175,156,164,114,192,183,253,147,38,54,63,247,204,52,165,229,241,113,216,49,21,4,199,35,195,24,150,5,154,7,18,128,226,235,39,178,117,9,131,44,26,27,110,90,160,82,59,214,179,41,227,47,132,83,209,0,237,32,252,177,91,106,203,190,57,74,76,88,207,208,239,170,251,67,77,51,133,69,249,2,127,80,60,159,168,81,163,64,143,146,157,56,245,188,182,218,33,16,255,243,210,205,12,19,236,95,151,68,23,196,167,126,61,100,93,25,115,96,129,79,220,34,42,144,136,70,238,184,20,222,94,11,219,224,50,58,10,73,6,36,92,194,211,172,98,145,149,228,121,231,200,55,109,141,213,78,169,108,86,244,234,101,122,174,8,186,120,37,46,28,166,180,198,232,221,116,31,75,189,139,138,112,62,181,102,72,3,246,14,97,53,87,185,134,193,29,158,225,248,152,17,105,217,142,148,155,30,135,233,206,85,40,223,140,161,137,13,191,230,66,104,65,153,45,15,176,84,187,22]
def lS(a:Nat):Nat:=sboxL.getD a 0
theorem oX(a:Nat):lS a<256:=by
 unfold lS;rw[jn];cases h:sboxL[a]? with
 | none=>decide
 | some x=>
  have ha:sboxL.all (λx=>decide (x<256))=true:=by kernel_rfl
  exact of_decide_eq_true (List.all_eq_true.1 ha x (List.mem_of_getElem? h))
attribute [irreducible] sboxL
theorem P1(s:ByteArray)(hs:s.data.toList.map (·.toNat)=sboxL)(a:Nat)(h:a<s.size):s[a].toNat=lS a:=by
 have j:a<s.data.toList.length:=h;have e:s[a]=s.data.toList[a]:=rfl;unfold lS;rw[e,<- hs,jn,List.getElem?_map,List.getElem?_eq_getElem j];rfl
theorem qQ(a:Nat)(w:Wd)(ha:a<256):Wc 350 #[.int .u8 (a:Nat)] w λe w'=>e = .returned (.int .u8 (lS a:Nat))/\w'=w:=by
 have j:(a:Int)<256:=by omega
 go_enter func350,ntmps350
 go_wp2_with fail
 go_ret;refine⟨?_,rfl⟩;exact congrArg (λn:Nat=>Ending.returned (.int .u8 (n:Int))) (P1 _ (by kernel_rfl) a (Nat.lt_of_lt_of_eq ha (by kernel_rfl)))
def xt(a:Nat):Nat:=if a/128=0 then a*2 % 256 else (a*2 % 256) ^^^ 27
def prd:Nat->Nat->Nat->Nat->Nat
 | 0,_,_,p=>p
 | n+1,a,b,p=>if b=0 then p else prd n (xt a) (b/2) (if b % 2=0 then p else p ^^^ a)
def wC(a b:Nat):Nat:=prd 8 a b 0
theorem KR{a:Nat}(h:a<256):xt a<256:=by
 unfold xt;split
 ·omega
 ·exact Nat.xor_lt_two_pow (n:=8) (by omega) (by omega)
theorem P3:∀ n {a b p:Nat},a<256->p<256->prd n a b p<256
 | 0,_,_,_,_,hp=>hp
 | n+1,a,b,p,ha,hp=>by
  unfold prd;split
  ·exact hp
  ·refine P3 n (KR ha) ?_;split
   ·exact hp
   ·exact Nat.xor_lt_two_pow (n:=8) hp ha
theorem BT{a b:Nat}(h:a<256):wC a b<256:=P3 8 h (by omega)
theorem P4:∀ n a p,prd n a 0 p=p
 | 0,_,_=>rfl
 | n+1,_,_=>by unfold prd;rw[jP rfl]
theorem sZ(a b:Nat)(w:Wd)(ha:a<256)(hb:b<256):Wc 353 #[.int .u8 (a:Nat),.int .u8 (b:Nat)] w λe w'=>e = .returned (.int .u8 (wC a b:Nat))/\w'=w:=by
 go_enter func353,ntmps353
 go_wp2_with fail
 go_loopw [0,1,5] (λx y z wr=>∃ n a' D p':Nat,n<=8/\a'<256/\D<2 ^ n/\p'<256/\x = .int .u8 (a':Nat)/\y = .int .u8 (D:Nat)/\z = .int .u8 (p':Nat)/\Hid (prd n a' D p'=wC a b)/\wr=w) (λ_ y _ _=>(intOf y).toNat)
 case atStart=>exact⟨8,a,b,0,ja _,ha,hb,by omega,rfl,rfl,rfl,jz rfl,rfl⟩
 case round=>
  obtain⟨n,a',D,p',hn,I,V,K,rfl,rfl,rfl,HP,hw⟩:=hrel;rw[hw];clear hw;rcases Nat.eq_zero_or_pos D with h0|h0
  ·have J:=HP.out;rw[h0,P4] at J;have a5:((D:Nat):Int)=0:=by omega
   go_wp2_with fail
   go_ret;exact⟨by rw[<- J];rfl,rfl⟩
  ·obtain⟨m,rfl⟩:∃ m,n=m+1:=⟨n-1,by
    rcases Nat.eq_zero_or_pos n with e|e
    ·subst e;simp at V;omega
    ·omega⟩
   have J:=HP.out;unfold prd at J;rw[jQ (by omega)] at J;have a5:¬((D:Nat):Int)=0:=by omega
   have Z:D/2<2 ^ m:=by rw[Nat.pow_succ] at V;omega
   have a0:D/2<D:=by omega
   have O:a'*2 % 256<256:=Nat.mod_lt _ (by omega);obtain⟨X,hX⟩:=je (a'*2 % 256);rw[<- hX] at O;have e3:((a':Nat):Int)*2 % 256=(X:Int):=by omega
   have e4:bits .xor .u8 (X:Int) 27=((X ^^^ 27:Nat):Int):=u8_xor_nat X 27 O (by omega);have e5:=u8_xor_nat p' a' K I;have a1:p' ^^^ a'<256:=Nat.xor_lt_two_pow (n:=8) K I;have R:=KR I;obtain⟨B2,a4⟩:=je (D/2);rw[<- a4] at J Z a0;have a6:((D:Nat):Int)/2=(B2:Int):=by omega
   have ea:=u8_and_nat D 1 (jp V (by have:=Nat.pow_le_pow_right (n:=2) (by omega) hn;exact this)) (by omega);rw[Nat.and_one_is_mod] at ea;have HN:=jz hn;rcases jo a' 128 with h7|h7
   ·have j:xt a'=X:=by unfold xt;rw[jP (by omega),hX]
    have e2:((a':Nat):Int)/128=0:=by omega
    have e3:((a':Nat):Int)*2=(X:Int):=by omega
    rw[j] at R;have HX:Hid (X<256/\xt a'<256/\True):=jz ⟨O,KR I,trivial⟩;have HB:=jz (And.intro Z a0);have a2:=jz (And.intro a1 K);have a3:=jz R;rcases Nat.mod_two_eq_zero_or_one D with hm|hm
    ·rw[jP hm,j] at J;have e1:bits .and .u8 ((D:Nat):Int) 1=0:=by rw[show(1:Int)=((1:Nat):Int) from rfl,ea,hm];rfl
     have U:=jz J;clear J HP ea hX j V Z a0 O a1 K R h7 I hm h0 hn a4;go_wp2_with fail
     exact⟨⟨m,X,B2,p',by have:=HN.out;omega,a3,HB.out.1,a2.out.2,rfl,rfl,rfl,U,trivial⟩,by have:=HB.out.2;simp[intOf];omega⟩
    ·rw[jQ (by omega),j] at J;have e1:bits .and .u8 ((D:Nat):Int) 1=1:=by rw[show(1:Int)=((1:Nat):Int) from rfl,ea,hm]
     have U:=jz J;clear J HP ea hX j V Z a0 O a1 K R h7 I hm h0 hn a4;go_wp2_with fail
     exact⟨⟨m,X,B2,p' ^^^ a',by have:=HN.out;omega,a3,HB.out.1,a2.out.1,rfl,rfl,rfl,U,trivial⟩,by have:=HB.out.2;simp[intOf];omega⟩
   ·have j:xt a'=X ^^^ 27:=by unfold xt;rw[jQ (by omega),hX]
    have e2:((a':Nat):Int)/128=1:=by omega
    rw[j] at R;have HX:Hid (X<256/\xt a'<256/\True):=jz ⟨O,KR I,trivial⟩;have HB:=jz (And.intro Z a0);have a2:=jz (And.intro a1 K);have a3:=jz R;rcases Nat.mod_two_eq_zero_or_one D with hm|hm
    ·rw[jP hm,j] at J;have e1:bits .and .u8 ((D:Nat):Int) 1=0:=by rw[show(1:Int)=((1:Nat):Int) from rfl,ea,hm];rfl
     have U:=jz J;clear J HP ea hX j V Z a0 O a1 K R h7 I hm h0 hn a4;go_wp2_with fail
     exact⟨⟨m,X ^^^ 27,B2,p',by have:=HN.out;omega,a3,HB.out.1,a2.out.2,rfl,rfl,rfl,U,trivial⟩,by have:=HB.out.2;simp[intOf];omega⟩
    ·rw[jQ (by omega),j] at J;have e1:bits .and .u8 ((D:Nat):Int) 1=1:=by rw[show(1:Int)=((1:Nat):Int) from rfl,ea,hm]
     have U:=jz J;clear J HP ea hX j V Z a0 O a1 K R h7 I hm h0 hn a4;go_wp2_with fail
     exact⟨⟨m,X ^^^ 27,B2,p' ^^^ a',by have:=HN.out;omega,a3,HB.out.1,a2.out.1,rfl,rfl,rfl,U,trivial⟩,by have:=HB.out.2;simp[intOf];omega⟩
attribute [irreducible] wC
end
section
set_option maxRecDepth 100000
open Go.RowKit
noncomputable def R64:Value->Option (DataW Unit×List MemPlace):=plainElem prog 2
def Fits(D:DataW Unit)(f:Wl->Option Int)(c:Nat):Prop:=
 Maps.size D=c/\∀ d,DigOk d->match f d with
  | none=>Maps.has D (dk d)=false
  | some t=>aE t/\Maps.has D (dk d)=true/\∀ z,D.atKey (dk d) z = .lit (.int .i64 t)
def DM(w:Wd)(b n:Nat)(f:Wl->Option Int)(c:Nat):Prop:=∃ D,w.ownsMap prog 26 R64 b n D/\Fits D f c
def upd(f:Wl->Option Int)(d:Wl)(t:Int):Wl->Option Int:=λx=>if x=d then some t else f x
def cut(f:Wl->Option Int)(d:Wl):Wl->Option Int:=λx=>if x=d then none else f x
theorem DM.le{w:Wd}{b n c:Nat}{f:Wl->Option Int}(h:DM w b n f c):c<=n:=by
 obtain⟨D,h,hs,_⟩:=h;rw[<- hs];exact h.size_le
theorem DM.i64{w:Wd}{b n c:Nat}{f:Wl->Option Int}(h:DM w b n f c){d:Wl}{t:Int}(hd:DigOk d)(j:f d=some t):aE t:=by
 obtain⟨D,_,_,h⟩:=h;have:=h d hd;rw[j] at this;exact this.1
theorem DM.lt{w:Wd}{b n c:Nat}{f:Wl->Option Int}(h:DM w b n f c):b<w.heap.size:=by
 obtain⟨D,⟨I,clock,hb,_⟩,_⟩:=h;rcases jo b w.heap.size with x|j
 ·exact x
 ·rw[Array.getElem?_eq_none j] at hb;cases hb
theorem DM.of_block{w w':Wd}{b n c:Nat}{f:Wl->Option Int}(h:DM w b n f c)(e:w'.heap[b]? = w.heap[b]?):DM w' b n f c:=by
 obtain⟨D,⟨j,clock,hb,r⟩,x⟩:=h;exact⟨D,⟨j,clock,e.trans hb,r⟩,x⟩
theorem DM.keep{w w':Wd}{b n c:Nat}{f:Wl->Option Int}(h:DM w b n f c)(hb:Bw w w'):DM w' b n f c:=h.of_block (hb.block b h.lt)
theorem DM.mono{w:Wd}{b n m c:Nat}{f:Wl->Option Int}(h:DM w b n f c)(K:n<=m):DM w b m f c:=by
 obtain⟨D,⟨j,clock,hb,h1,x,I⟩,J⟩:=h;exact⟨D,⟨j,clock,hb,h1,jm x K,I⟩,J⟩
theorem DM.made(w:Wd):DM (w.alloc (.map #[] 0)) w.heap.size 0 (λ_=>none) 0:=
 ⟨.map [],World.ownsMap_made _ _ _ _,rfl,λ_ _=>rfl⟩
theorem Fits.put{D:DataW Unit}{f:Wl->Option Int}{c:Nat}(h:Fits D f c)(J:Maps.Tidy D){d:Wl}(hd:DigOk d){t:Int}(ht:aE t):
  Fits (D.put (dk d) (.lit (.int .i64 t))) (upd f d t) (if (f d).isSome then c else c+1):=by
 obtain⟨hs,K⟩:=h;have I:Maps.has D (dk d)=(f d).isSome:=by
  have:=K d hd;cases hfd:f d with
  | none=>rw[hfd] at this;exact this
  | some t=>rw[hfd] at this;exact this.2.1
 refine⟨by rw[Maps.size_put J,I,hs],λx O=>?_⟩;unfold upd;by_cases hxd:x=d
 ·subst hxd;rw[jP rfl];exact⟨ht,Maps.has_put_same J.isMap (BS x) _,λz=>Maps.atKey_put_same J.isMap (BS x) _ z⟩
 ·rw[jQ hxd];have j:dk x≠dk d:=λe=>hxd (BR O hd e)
  have:=K x O;cases hfx:f x with
  | none=>rw[hfx] at this;exact(Maps.has_put_other j _).trans this
  | some t'=>
   rw[hfx] at this;exact⟨this.1,(Maps.has_put_other j _).trans this.2.1,λz=>(Maps.atKey_put_other j _ z).trans (this.2.2 z)⟩
theorem Fits.del{D:DataW Unit}{f:Wl->Option Int}{c:Nat}(h:Fits D f c)(R:Maps.Tidy D){d:Wl}(hd:DigOk d):
  ∃ J,Fits (D.del (dk d)) (cut f d) J/\J+(if (f d).isSome then 1 else 0)=c:=by
 obtain⟨hs,K⟩:=h;have I:Maps.has D (dk d)=(f d).isSome:=by
  have:=K d hd;cases hfd:f d with
  | none=>rw[hfd] at this;exact this
  | some t=>rw[hfd] at this;exact this.2.1
 refine⟨_,⟨rfl,λx O=>?_⟩,by rw[<- I,Maps.size_del R,hs]⟩;unfold cut;by_cases hxd:x=d
 ·subst hxd;rw[jP rfl];exact Maps.has_del_same
 ·rw[jQ hxd];have j:dk x≠dk d:=λe=>hxd (BR O hd e)
  have:=K x O;cases hfx:f x with
  | none=>rw[hfx] at this;exact(Maps.has_del_other j).trans this
  | some t'=>
   rw[hfx] at this;exact⟨this.1,(Maps.has_del_other j).trans this.2.1,λz=>(Maps.atKey_del_other j z).trans (this.2.2 z)⟩
theorem Fits.has{D:DataW Unit}{f:Wl->Option Int}{c:Nat}(h:Fits D f c){d:Wl}(hd:DigOk d):Maps.has D (dk d)=(f d).isSome:=by
 have:=h.2 d hd;cases hfd:f d with
 | none=>rw[hfd] at this;exact this
 | some t=>rw[hfd] at this;exact this.2.1
theorem DM.look{w:Wd}{b n c:Nat}{f:Wl->Option Int}{tM:TypeId}(ht:prog.underlying tM=some (.map 26 2))(h:DM w b n f c){d:Wl}(hd:DigOk d):
  (Instr.lookup tM (.map (some b)) (.agg (u8s d).toArray) true).run prog w = .ok (.tuple #[.int .i64 ((f d).getD 0),.bool (f d).isSome]) w:=by
 obtain⟨D,I,J⟩:=h;obtain⟨v,ps,hrun,K⟩:=I.look_ok keyed ht (z:=.int .i64 0) (by kernel_rfl) (zd:=.lit (.int .i64 0)) (zp:=[]) (plainElem_int underlying2 (by decide)) (kP hd);obtain⟨x,rfl,j,_⟩:=plainElem_int_inv underlying2 K;have j:=congrArg Prod.fst j;dsimp only at j;rw[J.has hd] at hrun;have:=J.2 d hd;cases hfd:f d with
 | none=>
  rw[hfd] at this hrun;rw[Maps.atKey_of_not_has this] at j;obtain rfl:x=0:=by simpa using j.symm
  exact hrun
 | some t=>
  rw[hfd] at this hrun;rw[this.2.2] at j;obtain rfl:x=t:=by simpa using j.symm
  exact hrun
theorem DM.put_run{w:Wd}{b n c:Nat}{f:Wl->Option Int}{tM:TypeId}(ht:prog.underlying tM=some (.map 26 2))(h:DM w b n f c){d:Wl}(hd:DigOk d){t:Int}(x:aE t)(O:n<maxLen):
  ∃ w',(Instr.mapUpdate tM (.map (some b)) (.agg (u8s d).toArray) (.int .i64 t)).run prog w = .ok () w'/\DM w' b (n+1) (upd f d t) (if (f d).isSome then c else c+1)/\w.grownBy w' (some b):=by
 obtain⟨D,j,K⟩:=h;obtain⟨w',hrun,J,I⟩:=j.update keyed ht O (kP hd) (val:=.int .i64 t) (d:=.lit (.int .i64 t)) (ps:=[]) (plainElem_int underlying2 (OX x));exact⟨w',hrun,⟨_,J,K.put (j.tidy keyed) hd x⟩,I⟩
def DR(w:Wd)(b r n:Nat)(f:Wl->Option Int)(c:Nat)(left:Wl->Bool)(cnt:Nat):Prop:=
 ∃ D l,w.ranges prog 26 R64 b r n D l cnt/\Fits D f c/\∀ d,DigOk d->l (dk d)=left d
theorem DR.owns{w:Wd}{b r n c cnt:Nat}{f:Wl->Option Int}{left:Wl->Bool}(h:DR w b r n f c left cnt):DM w b n f c:=by
 obtain⟨D,l,h,j,_⟩:=h;exact⟨D,h.owns,j⟩
theorem DR.of_blocks{w w':Wd}{b r n c cnt:Nat}{f:Wl->Option Int}{left:Wl->Bool}(h:DR w b r n f c left cnt)(e:w'.heap[b]? = w.heap[b]?)(I:w'.heap[r]? = w.heap[r]?):DR w' b r n f c left cnt:=by
 obtain⟨D,l,⟨J,clock,j,x,c0,hb,h1,K,O,V,R⟩,U⟩:=h;exact⟨D,l,⟨J,clock,j,x,c0,e.trans hb,h1,K,O,I.trans V,R⟩,U⟩
theorem DR.lt{w:Wd}{b r n c cnt:Nat}{f:Wl->Option Int}{left:Wl->Bool}(h:DR w b r n f c left cnt):r<w.heap.size/\r≠b:=by
 obtain⟨D,l,h,_⟩:=h;exact⟨h.lt,h.ne⟩
theorem DR.keep{w w':Wd}{b r n c cnt:Nat}{f:Wl->Option Int}{left:Wl->Bool}(h:DR w b r n f c left cnt)(hb:Bw w w'):DR w' b r n f c left cnt:=
 h.of_blocks (hb.block b h.owns.lt) (hb.block r h.lt.1)
theorem DR.left_eq{w:Wd}{b r n c cnt:Nat}{f:Wl->Option Int}{left:Wl->Bool}(h:DR w b r n f c left cnt):w.rangeLeft b r=cnt:=by
 obtain⟨D,l,h,_⟩:=h;exact h.left_eq
theorem DM.congr{w:Wd}{b n c:Nat}{f f':Wl->Option Int}(h:DM w b n f c)(e:∀ d,DigOk d->f d=f' d):DM w b n f' c:=by
 obtain⟨D,h,hs,j⟩:=h;exact⟨D,h,hs,λd hd=>by rw[<- e d hd];exact j d hd⟩
section
variable {ops : Array Oper} {rest : List Oper} {o : Oper} {a : Act} {w : Wd} {Q : Exit -> Act -> Wd -> Prop} {tM : TypeId} (ht : prog.underlying tM = some (.map 26 2))
include ht
theorem P5(hg:o.guard=none)(m:Operand)(J:o.op=Op.range tM m){b n c:Nat}{f:Wl->Option Int}(U:a.eval m = .map (some b))(h:DM w b n f c)
  (R:∀ w',DR w' b w.heap.size n f c (λd=>(f d).isSome) c->w.grownBy w' none->w'.heap.size=w.heap.size+1->wpList prog ops Q rest (a.put o.dst (.pointer (some ⟨w.heap.size,0,none⟩))) w'):wpList prog ops Q (o :: rest) a w:=by
 obtain⟨D,j,x⟩:=h;refine wpList_range_own w hg m tM J 26 2 keyed ht R64 b n D U j λw' O I K=>?_
 rw[x.1] at O;exact R w' ⟨D,_,O,x,λd hd=>x.has hd⟩ I K
omit ht in
theorem XF(hg:o.guard=none)(it:Operand)(a4:o.op=Op.next it false){b r n c cnt:Nat}{f:Wl->Option Int}{left:Wl->Bool}(a1:a.eval it = .pointer (some ⟨r,0,none⟩))(h:DR w b r n f c left cnt)
  (J:cnt=0->(∀ d,DigOk d->left d=false)->wpList prog ops Q rest (a.put o.dst (.tuple #[.bool false])) w)
  (K:∀(d:Wl) (t:Int) (w':Wd) (j:Nat),DigOk d->aE t->left d=true->f d=some t->DR w' b r n f c (λx=>left x && !(x == d)) j->j<cnt->w.grownBy w' (some r)->w'.heap.size=w.heap.size ->
   (Instr.entry (.pointer (some ⟨r,0,none⟩))).run prog w' = .ok (.tuple #[.agg (u8s d).toArray,.int .i64 t]) w'->wpList prog ops Q rest (a.put o.dst (.tuple #[.bool true,.agg (u8s d).toArray,.int .i64 t])) w'):wpList prog ops Q (o :: rest) a w:=by
 obtain⟨D,l,hr,hf,hl⟩:=h;refine wpList_next_ranges w hg it a4 26 keyed R64 dv (Value.int .i64) (λkey kl hk=>?_) (λv y hv=>?_) b r n D l cnt a1 hr (λh0 O=>J h0 λd hd=>by rw[<- hl d hd];exact O _) λd t kl y w' j U a2 hv R a5 a3 a0 a6 Z=>?_
 ·obtain⟨d,_,rfl,_⟩:=rW hk;exact⟨d,rfl⟩
 ·obtain⟨t,rfl,_⟩:=plainElem_int_inv underlying2 hv;exact⟨t,rfl⟩
 ·obtain⟨d',hd,V,rfl⟩:=rW U;obtain rfl:d=d':=by
   have h1:(u8s d).toArray=(u8s d').toArray:=Value.agg.inj V;have h2:u8s d=u8s d':=by simpa using h1
   have:=congrArg (List.map λv:Value=>match v with | .int _ n=>n|_=>0) h2;simpa [u8s,Function.comp_def] using this
  obtain⟨t',a7,hy,hw⟩:=plainElem_int_inv underlying2 hv;obtain rfl:t=t':=by simpa using a7
  subst hy;have I:f d=some t:=by
   have:=hf.2 d hd;cases I:f d with
   | none=>
    rw[I] at this;have h1:=R .nil;rw[Maps.atKey_of_not_has this] at h1;cases h1
   | some t'=>
    rw[I] at this;have h1:=(R .nil).symm.trans (this.2.2 .nil);obtain rfl:t=t':=by simpa using h1
    rfl
  refine K d t w' j hd (lW hw) (by rw[<- hl d hd];exact a2) I ⟨D,_,a5,hf,λx hx=>?_⟩ a3 a0 a6 Z;show(l (dk x) && !(dk x).sameKey (dk d))=_;rw[hl x hx];by_cases hxd:x=d
  ·subst hxd;simp[WideAt.sameKey_self (BS x)]
  ·rw[Maps.sameKey_ne (λe=>hxd (BR hx hd e))];simp[hxd]
theorem UN{K:Act->Wd->Prop}{E:Prop}(m x:Operand)(Z:o.op=Op.call { callee:=Callee.builtin Builtin.delete,args:=#[m,x],argTypes:=#[tM,26] })(hw:Region.wanted o (yielded ops a.tmps)=true){b r n c cnt:Nat}{f:Wl->Option Int}{left:Wl->Bool}
  (hm:a.eval m = .map (some b)) (h:DR w b r n f c left cnt) {d:Wl} (hd:DigOk d) (O:a.eval x = .agg (u8s d).toArray)
  (hK:∀ w' J j,DR w' b r n (cut f d) J (λx=>left x && !(x == d)) j->J+(if (f d).isSome then 1 else 0)=c->j<=cnt->w.mapTurned w' b->K (a.put o.dst (.tuple #[])) w'):
  if Region.wanted o (yielded ops a.tmps)=true then Oper.wp prog o a w K Q else E:=by
 rw[jP hw];obtain⟨D,l,hr,hf,hl⟩:=h;obtain⟨w',j,hrun,a0,V,I⟩:=hr.drop keyed ht (kP hd) o.type;obtain⟨J,U,R⟩:=hf.del (hr.owns.tidy keyed) hd;have a1:a.eval x=dv d:=O;unfold Oper.wp;simp[execOp,Z,resolve,invoke,builtin,hm,a1,hrun,Result.andThen];refine hK w' J j ⟨_,_,a0,U,λx O=>?_⟩ R V I;show(l (dk x) && !(dk x).sameKey (dk d))=_;rw[hl x O];by_cases hxd:x=d
 ·subst hxd;simp[WideAt.sameKey_self (BS x)]
 ·rw[Maps.sameKey_ne (λe=>hxd (BR O hd e))];simp[hxd]
end
end
section
set_option maxRecDepth 100000
open Go.RowKit
def IX(w:Wd)(g b n:Nat)(f:Wl->Option Int)(c:Nat):Prop:=w.cell? ⟨g,0,none⟩=some (.map (some b))/\g≠b/\DM w b n f c
theorem IX.keep{w w':Wd}{g b n c:Nat}{f:Wl->Option Int}(h:IX w g b n f c)(hb:Bw w w'):IX w' g b n f c:=⟨j9 hb h.1,h.2.1,h.2.2.keep hb⟩
theorem IX.mono{w:Wd}{g b n m c:Nat}{f:Wl->Option Int}(h:IX w g b n f c)(j:n<=m):IX w g b m f c:=⟨h.1,h.2.1,h.2.2.mono j⟩
def old?(f:Wl->Option Int)(d:Wl)(t:Int):Bool:=(f d).isSome && decide (t<=(f d).getD 0)
def rX(f:Wl->Option Int)(d:Wl)(t:Int):Wl->Option Int:=if old? f d t then f else upd f d t
def MJ(f:Wl->Option Int)(d:Wl)(c:Nat):Nat:=if (f d).isSome then c else c+1
theorem KS(g b n c:Nat)(f:Wl->Option Int)(d:Wl)(t:Int)(w:Wd)(h:IX w g b n f c)(hd:DigOk d)(ht:aE t)(hn:n<maxLen):
  Wc 206 #[.pointer (some ⟨g,0,none⟩),.agg (cW d t).toArray] w λe w'=>e = .returned (.bool (!old? f d t))/\IX w' g b (n+1) (rX f d t) (MJ f d c)/\Off b w w':=by
 go_enter func206,ntmps206
 have d2:=lF hd t;have a6:(u8s d).length=32:=by simp[u8s,hd.len]
 obtain⟨hg,a3,hm⟩:=h;have d1:=dW hg;have a7:=hm.lt;have I:Bw w (w.alloc (.cells (cW d t).toArray 172)):=(by repeat (first|exact ji _ _|assumption|refine cA ?_ _|refine Below.setCell ?_ (by first|exact ja _|assumption|omega|(simp <;> omega)) _|refine Below.alloc ?_ (by first|exact ja _|assumption|omega|(simp <;> omega)) _));have hB:=Blk.new w 172 (cW d t).toArray;have c2:(w.alloc (.cells (cW d t).toArray 172)).heap.size=w.heap.size+1:=by simp
 have a1:=j9 I hg;have a5:=hm.keep I;have a9:=I.block b a7;go_wp2_with fail
 obtain⟨K,c4⟩:=je (w.alloc (.cells (cW d t).toArray 172));rw[<- c4] at I hB a1 a5 a9 c2 ⊢;clear c4;have b7:K.rangeAt w.heap.size 0 (u8s d):=λj u hj=>by
  rw[Nat.zero_add,hB.cell j];have c6:=(List.getElem?_eq_some_iff.1 hj).1;simp only[jf,cW];rw[jy c6];exact hj
 have c3:K.cell? ⟨w.heap.size,32,none⟩=some (.int .i64 t):=by
  rw[hB.cell 32];simp only[jf,cW];rw[jx (by omega),a6];rfl
 have a4:=fun(w':Wd) (d0:w'.heap[b]? = w.heap[b]?)=>(hm.of_block d0).look (tM:=292) underlying292 hd
 have c7:=underlying26;have c9:(prog.info? 26).map (·.size)=some (u8s d).length:=by rw[a6];kernel_rfl
 go_region_held3 (λw'=>w'.cell? ⟨g,0,none⟩=some (.map (some b))/\w'.rangeAt w.heap.size 0 (u8s d)/\w'.cell? ⟨w.heap.size,32,none⟩=some (.int .i64 t)/\w'.heap[b]? = w.heap[b]?/\Bw K w')
  (first
   | (refine⟨by assumption,by assumption,by assumption,by assumption,(ji _ _).drew⟩)
   | (go_split_ands;exact⟨by assumption,by assumption,by assumption,by assumption,by assumption⟩)
   | go_keep)
  (fail)
 have R:DM K.drew b n f c:=a5.of_block rfl;have O:Bw w K.drew:=I.drew;have a2:K.drew.cell? ⟨g,0,none⟩=some (.map (some b)):=a1;have Z:K.drew.cell? ⟨w.heap.size,32,none⟩=some (.int .i64 t):=c3;have V:K.drew.rangeAt w.heap.size 0 (u8s d):=b7;obtain⟨w2,c5⟩:=je K.drew;rw[<- c5] at R O a2 Z V ⊢;rename_i hH;clear a4 hH c5 b7 c3 hB a1 a5 a9 I c2;rcases jb (old? f d t) with x|x
 ·have ho:=x;unfold old? at ho;obtain⟨t1,t2⟩:=(Bool.and_eq_true _ _).mp ho;have J:rX f d t=f:=by unfold rX;rw[jP x]
  have b1:MJ f d c=c:=by unfold MJ;rw[jP t1]
  have HP:=jz J;have HC:=jz b1;have HO:=jz x;clear J b1 x ho c9 c7;go_wp2_with fail
  go_ret;rw[HP.out,HC.out,HO.out];exact⟨rfl,⟨a2,a3,R.mono (Nat.le_succ n)⟩,Off.of_below O⟩
 ·have J:rX f d t=upd f d t:=by unfold rX;rw[jQ (by rw[x];simp)]
  obtain⟨w3,hrun,b0,a8⟩:=(show DM w2.drew b n f c from R.of_block rfl).put_run (tM:=292) underlying292 hd ht hn;have D:Off b w2.drew w3:=Off.of_grown a8;have U:Bw w w2.drew:=O.drew;have k1:w3.cell? ⟨g,0,none⟩=some (.map (some b)):=D.cell (show w2.drew.cell? ⟨g,0,none⟩=some (.map (some b)) from a2) a3;have k2:w3.cell? ⟨w.heap.size,32,none⟩=some (.int .i64 t):=D.cell (show w2.drew.cell? ⟨w.heap.size,32,none⟩=some (.int .i64 t) from Z) (by show w.heap.size≠b;omega);have k3:w3.rangeAt w.heap.size 0 (u8s d):=λj u hj=>D.cell (show w2.drew.cell? ⟨w.heap.size,0+j,none⟩=some u from V j u hj) (by show w.heap.size≠b;omega)
  have HP:=jz J;have HO:=jz x;have a0:(f d).isSome=false\/(f d).isSome=true/\decide (t<=(f d).getD 0)=false:=by
   unfold old? at x;cases h:(f d).isSome
   ·exact .inl rfl
   ·rw[h] at x;exact .inr ⟨rfl,by simpa using x⟩
  have HM:=jz b0;have HF:=jz ((Off.of_below U).trans D);clear J x b0 a8 D U R O;rcases a0 with t1|⟨t1,t2⟩
  all_goals
   go_wp2_with fail
   go_region_held3 (λw'=>w'.cell? ⟨g,0,none⟩=some (.map (some b))/\w'.rangeAt w.heap.size 0 (u8s d)/\w'.cell? ⟨w.heap.size,32,none⟩=some (.int .i64 t))
    (first
     | (refine⟨by assumption,by assumption,by assumption⟩)
     | (go_split_ands;exact⟨by assumption,by assumption,by assumption⟩)
     | go_keep)
    (fail)
   go_wp2_with fail
   go_ret;rw[HP.out,HO.out];exact⟨rfl,⟨k1,a3,HM⟩,HF⟩
end
section
set_option maxRecDepth 100000
open Go.RowKit
theorem UO(g b n c:Nat)(f:Wl->Option Int)(d:Wl)(w:Wd)(h:IX w g b n f c)(hd:DigOk d):
  Wc 273 #[.pointer (some ⟨g,0,none⟩),.agg (u8s d).toArray] w (Rt w (.tuple #[.int .i64 ((f d).getD 0),.bool (f d).isSome])):=by
 obtain⟨hg,V,U⟩:=h;have O:=fun(w':Wd) (R:w'.heap[b]? = w.heap[b]?)=>(U.of_block R).look (tM:=292) underlying292 hd
 have j:Bw w (w.alloc (.cells (u8s d).toArray 26)):=(by repeat (first|exact ji _ _|assumption|refine cA ?_ _|refine Below.setCell ?_ (by first|exact ja _|assumption|omega|(simp <;> omega)) _|refine Below.alloc ?_ (by first|exact ja _|assumption|omega|(simp <;> omega)) _));have x:=(Blk.new w 26 (u8s d).toArray).range;have D:(u8s d).length=32:=by simp[u8s,hd.len]
 have J:=j9 j hg;have K:=j.block b U.lt;rw[jt] at x;go_enter func273,ntmps273
 go_wp2_with (refine ld 26 _ rfl rfl rfl x underlying26 rfl (by rw[D];kernel_rfl) ?_)
 obtain⟨w1,I⟩:=je (w.alloc (.cells (u8s d).toArray 26));rw[<- I] at j x J K ⊢;clear I;have Z:=underlying26;have a0:(prog.info? 26).map (·.size)=some (u8s d).length:=by rw[D];kernel_rfl
 go_region_held3 (λw'=>w'.cell? ⟨g,0,none⟩=some (.map (some b))/\w'.rangeAt w.heap.size 0 (u8s d)/\w'.heap[b]? = w.heap[b]?/\Bw w w')
  (first
   | (refine⟨by assumption,by assumption,by assumption,j.drew⟩)
   | (go_split_ands;exact⟨by assumption,by assumption,by assumption,by assumption⟩)
   | go_keep)
  (fail)
 go_wp2_with fail
 go_ret2
 exact⟨rfl,by go_split_ands;assumption⟩
theorem UP(g b n c:Nat)(f:Wl->Option Int)(d:Wl)(now:Int)(w:Wd)(h:IX w g b n f c)(hd:DigOk d):
  Wc 209 #[.pointer (some ⟨g,0,none⟩),.agg (u8s d).toArray,.int .i64 now] w (Rt w (.bool ((f d).isSome && decide (now<=(f d).getD 0)))):=by
 have j:Bw w (w.alloc (.cells (u8s d).toArray 26)):=(by repeat (first|exact ji _ _|assumption|refine cA ?_ _|refine Below.setCell ?_ (by first|exact ja _|assumption|omega|(simp <;> omega)) _|refine Below.alloc ?_ (by first|exact ja _|assumption|omega|(simp <;> omega)) _));have x:=(Blk.new w 26 (u8s d).toArray).range;have D:(u8s d).length=32:=by simp[u8s,hd.len]
 rw[jt] at x;go_enter func209,ntmps209
 go_wp2_with (refine ld 26 _ rfl rfl rfl x underlying26 rfl (by rw[D];kernel_rfl) ?_)
 refine(UO g b n c f d _ (h.keep j) hd).mono ?_;rintro e R ⟨rfl,I⟩;have J:=aA j I;clear h;rcases jb (f d).isSome with K|K <;> rcases jb (decide (now<=(f d).getD 0)) with O|O
 all_goals
  go_wp2_with fail
  go_ret;exact⟨by rw[K,O];rfl,J⟩
end
section
set_option maxRecDepth 100000
open Go.RowKit
def nH(x y:Int):Int:=if x<y then -1 else if y<x then 1 else 0
def jJ:Wl->Wl->Int
 | [],[]=>0
 | [],_ :: _=>-1
 | _ :: _,[]=>1
 | a :: xs,b :: ys=>if a<b then -1 else if b<a then 1 else jJ xs ys
def dP(p q:Wl×Int):Int:=if nH p.2 q.2≠0 then nH p.2 q.2 else jJ p.1 q.1
theorem KT{a b:Int}(ha:0<=a/\a<=255)(hb:0<=b/\b<=255):a.toNat.toUInt8<b.toNat.toUInt8 ↔ a<b:=by
 rw[UInt8.lt_iff_toNat_lt];simp only[Nat.toUInt8_eq,UInt8.toNat_ofNat'];omega
theorem lI:∀(x y:Wl),(∀ b∈x,0<=b/\b<=255)->(∀ b∈y,0<=b/\b<=255)->Lib.compareBytes (Lib.bytesOf x) (Lib.bytesOf y)=jJ x y
 | [],[],_,_=>rfl
 | [],_ :: _,_,_=>rfl
 | _ :: _,[],_,_=>rfl
 | a :: xs,b :: ys,hx,hy=>by
  have ih:=lI xs ys (λc j=>hx c (by simp[j])) (λc j=>hy c (by simp[j]));have ha:=hx a (by simp);have hb:=hy b (by simp);show(if a.toNat.toUInt8<b.toNat.toUInt8 then (-1:Int) else if b.toNat.toUInt8<a.toNat.toUInt8 then 1 else Lib.compareBytes (Lib.bytesOf xs) (Lib.bytesOf ys))=if a<b then -1 else if b<a then 1 else jJ xs ys
  simp only[KT ha hb,KT hb ha,ih]
theorem UQ(g D:Nat)(c J:Nat)(x y:Wl)(w:Wd)(I:DigOk x)(hy:DigOk y)(h:w.rangeAt g 0 (u8s x))(K:w.rangeAt D 0 (u8s y)):
  (Extern.BytealgCompare.compare #[.slice (some ⟨g,0,none⟩) 32 c,.slice (some ⟨D,0,none⟩) 32 J]).run prog w = .ok (.int .i64 (jJ x y)) w:=by
 have key:∀(g c:Nat) (x:Wl),DigOk x->w.rangeAt g 0 (u8s x)->(Extern.Bytes.bytesOf (.slice (some ⟨g,0,none⟩) 32 c)).run prog w = .ok ⟨(Lib.bytesOf x).toArray⟩ w:=by
  intro g c x I h;show(Extern.Bytes.loadBytes ⟨g,0,none⟩ 32 .empty).run prog w=_;have:=Lib.run_loadBytesX (P:=prog) (w:=w) x ⟨g,0,none⟩ .empty (λj u O=>by
   have h1:=h j (.int .u8 u) (by simp[u8s,O])
   by_cases hj0:j=0
   ·subst hj0;simpa [Addr.add] using h1
   ·simpa [Addr.add,hj0] using h1)
  rw[I.len] at this;rw[this];simp
 change Sem.run prog (do pure (goInt (Extern.BytealgCompare.cmp (<- Extern.Bytes.bytesOf (.slice (some ⟨g,0,none⟩) 32 c)) (<- Extern.Bytes.bytesOf (.slice (some ⟨D,0,none⟩) 32 J))))) w=_;simp only[Sem.run_bind,Sem.run_pure,key g c x I h,key D J y hy K,Result.andThen];rw[Lib.cmp_eq];show Result.ok (Value.int .i64 (Lib.compareBytes (Lib.bytesOf x).toArray.toList (Lib.bytesOf y).toArray.toList)) w=_;rw[jt,jt,lI x y I.byte hy.byte]
theorem yQ(g j:Nat)(c D:Nat)(x y:Wl)(w:Wd)(J:DigOk x)(hy:DigOk y)(h:w.rangeAt g 0 (u8s x))(I:w.rangeAt j 0 (u8s y)):
  Wc 235 #[.slice (some ⟨g,0,none⟩) 32 c,.slice (some ⟨j,0,none⟩) 32 D] w λe w'=>e = .returned (.int .i64 (jJ x y))/\w'=w:=by
 go_enter func235,ntmps235
 go_wp2
 rw[run_callFunc_extern func301 (by kernel_rfl) (by kernel_rfl) (by kernel_rfl) (e:=Extern.BytealgCompare.compare) (by kernel_rfl)];rw[UQ g j c D x y w J hy h I];simp only[Result.andThen];rw[Oper.upon_value];go_wp2
 go_ret;exact⟨rfl,rfl⟩
theorem zL(x:Int)(w:Wd):Wc 300 #[.int .i64 x] w λe w'=>e = .returned (.bool false)/\w'=w:=by
 go_enter func300,ntmps300
 go_wp2_with fail
 go_ret;exact⟨rfl,rfl⟩
theorem ED(x y:Int)(w:Wd):
  Wc 234 #[.int .i64 x,.int .i64 y] w λe w'=>e = .returned (.int .i64 (nH x y))/\w'=w:=by
 rcases jb (decide (x<y)) with j|j <;> rcases jb (decide (y<x)) with D|D
 all_goals
  go_enter func234,ntmps234
  go_wp2_with fail
  refine(zL x w).mono ?_;rintro e I ⟨rfl,rfl⟩;go_wp2_with fail
  refine(zL y _).mono ?_;rintro e I ⟨rfl,rfl⟩;go_wp2_with fail
  go_ret;have u1:=j;have u2:=D;simp only[decide_eq_true_eq,decide_eq_false_iff_not] at u1 u2;refine⟨?_,rfl⟩;unfold nH;simp[u1,u2]
end
end Go.Proofs.YtiaigidbcljblaaGreatDoor
