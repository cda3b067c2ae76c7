import Derived.Test.YtiaigidbcljblaaGreatDoorMB35
import Derived.ChangeSlices
set_option linter.unusedVariables false
set_option linter.unusedSimpArgs false
set_option maxRecDepth 100000
set_option maxHeartbeats 40000000
namespace Go.Proofs.YtiaigidbcljblaaGreatDoor
open Go.Proofs.Tryz
section
open Go.RowKit
attribute [local irreducible] wpQuiet wpAnyH
theorem rZ(V:eD)(J:∀ s b,(cW b).2.2=false->V s b=((1,z32L),aM s))(key:Nat->Nat)(skew:Int):ES V (λd=>(cW (nP d)).2.2=false) (λ_=>True) key skew:=by
 intro w0 w gv g9 gm k N s X x U D O I Z R j K;rw[J s _ D];obtain⟨⟨kd,n,d,cs⟩,A,ca,B,cb⟩:=x;have hs:=I.1;rw[zK] at hs;have h:=BJ (B:=B) (cb:=cb) (cl:=cs.length) (dl:=d.length) (ca:=ca) (kd:=kd) (nn:=n) (nP d) A (by rw[jG];exact hs) (zL d) (by rw[jG];simp only at O;omega) D R j K;exact h.mono λe w' j=>j.up (Nat.le_succ _)
def IM:eD:=λs _=>((1,z32L),aM s)
theorem E6(w:Wd)(ht:Tab w)(O:ML w):Wc 6 #[] w (Rt w (.bool true)):=by
  have hn:VD IM:=λ_=>rfl
  have J:∀(l:List OpR),bF l=II->l.length=3/\(∀ x∈l,x.o.data=[]/\x.o.cuts=[]):=λl h=>by
    refine⟨by rw[<- cY,h];rfl,λx j=>?_⟩;have h1:x.o∈II:=by rw[<- h];exact List.mem_map_of_mem j
    simp only[II,jl,j8,or_false] at h1;rcases h1 with h1|h1|h1 <;> rw[h1] <;> exact⟨rfl,rfl⟩
  have R:(cW (nP [])).2.2=false:=by kernel_rfl
  refine RP w (λZ D=>?_) (λZ D=>?_) (λZ A cap D hs=>?_)
  · have h := EW (V := IM) c58 EY Z (O.below D) (ht.below D) (by decide) (λw2 l A cap a0 U hs K => by
        rw [xI] at U
        obtain ⟨h3, hd⟩ := J l U
        exact tV c58 _ w2 λw3 I=>tU A cap l w3 (rZ IM (λ_ _ _=>rfl) _ _) (λ_ _=>rfl) (λ_ _=>trivial) (hs.below I) (λx j=>(K x j).below I)
          (λx j=>by rw[(hd x j).1,(hd x j).2];exact⟨by decide,by decide⟩) (λx j _=>by rw[(hd x j).1];exact R) (by omega) (by decide))
      (by rw[xI,tW hn];exact E1) (by rw[xI,tW hn];decide) (by rw[xI,tW hn];intro x j;cases j)
    rw[RL hn] at h;exact h
  · have h := EW (V := IM) c51 [] Z (O.below D) (ht.below D) (by decide) (λw2 l A cap a0 U hs K => by
        rw [BM] at U
        have h0 : l = [] := by simpa [bF] using U
        subst h0
        exact tV c51 _ w2 λw3 I=>tU A cap [] w3 (rZ IM (λ_ _ _=>rfl) _ _) (λ_ _=>rfl) (λ_ _=>trivial) (hs.below I) (λx j=>by cases j) (λx j=>by cases j) (λx j=>by cases j) (by decide) (by decide))
      (by rw[BM];intro r hr;cases hr) (by rw[BM];decide) (by rw[BM];intro x _;rfl)
    rw[RM] at h;exact h
  · have h:=tV (r:=dC IM c58 [E0]) c58 (.slice A 1 cap) Z λw3 I=>tU A cap [⟨E0,none,0,none,0⟩] w3 (rZ IM (λ_ _ _=>rfl) _ _) (λ_ _=>rfl) (λ_ _=>trivial) (hs.below I)
      (λx j=>by
        simp only[jl,j8,or_false] at j
        subst j
        exact⟨Sn.nil1 _ _,Sn.nil1 _ _⟩)
      (λx j=>by
        simp only[jl,j8,or_false] at j
        subst j
        exact⟨by decide,by decide⟩)
      (λx j hk=>by
        simp only[jl,j8,or_false] at j
        subst j
        exact absurd hk (by decide)) (by decide) (by decide)
    rw[VF] at h;exact h
theorem IN{P:Program}{f:FuncId}{args:Wa}{w:Wd}{p:Prop}(h:Calls P f args w λ_ _=>p):p:=by
 obtain⟨_,_,_,h1,_⟩:=h [];exact h1
theorem E7(c:ConfD)(w:Wd):Wc 10 #[.agg (aQ c).toArray] w (Rt w (.bool (decide (c.sec<=30)))):=by
 obtain⟨R,j⟩:=je (w.alloc (.cells (aQ c).toArray 37));have D:Hid (Bw w R):=jz (by rw[j];exact aG _ _);obtain⟨_,x,_⟩:=qQ (w:=R) (g:=w.heap.size) (c:=c) (by rw[j];exact Blk.new _ _ _);obtain⟨K,I⟩:=je (aQ c);rw[<- I] at j ⊢;obtain⟨key,sk,J⟩:=c;simp only at x;clear I;rcases Int.lt_or_le 30 J with O|O
 ·have u1:¬J<=30:=by omega
  go_enter func10,ntmps10
  go_upto_region 1 with fail
  rw[<- j];clear j;go_wp2_with fail
  go_ret;exact⟨by simp[u1],D⟩
 ·go_enter func10,ntmps10
  go_upto_region 1 with fail
  rw[<- j];clear j;go_wp2_with fail
  go_ret;exact⟨by simp[O],D⟩
def xY(x:OpR):Bool:=!(decide (1000<(x.o.data.length:Int)) || decide (30<(x.o.cuts.length:Int)))
def BO(l:List OpR):Int:=if l.all xY then (if 40<(l.length:Int) then 0 else 1) else 0
theorem NM(l:List OpR)(A:Option Addr)(cap:Nat)(w:Wd)(hs:Sn w 4 (.slice A l.length cap) l.length (l.flatMap opC))
  (hd:∀ x∈l,x.o.data.length<=9223372036854775807/\x.o.cuts.length<=9223372036854775807) (hm:l.length<=9223372036854775807):
  Wc 9 #[.slice A l.length cap] w λe w'=>e = .returned (.int .i64 (BO l))/\w'=w:=by
 have HS:=jz hs;have HD:=jz hd;clear hs hd;go_enter func9,ntmps9
 go_wp2_with fail
 go_loopw [3] (λi wr=>∃ k:Nat,k<=l.length/\i = .int .i64 k/\Hid ((l.take k).all xY=true)/\wr=w) (λi _=>l.length-(intOf i).toNat)
 case atStart=>exact⟨0,j0 _,rfl,jz (by simp),rfl⟩
 case round=>
  obtain⟨k,hk,rfl,HA,hw⟩:=hrel;rw[hw];clear hw;rcases jo k l.length with K|a3
  ·obtain⟨b,off,eA,U⟩:=J3 HS k K;subst eA;obtain⟨x,V⟩:=je (l[k]);rw[<- V] at U;have I:x∈l:=by rw[V];exact List.getElem_mem K
   have a2:=HD.out x I;have a0:w.cell? ⟨b,off+k*4+2,none⟩=some (.slice x.A x.o.data.length x.ca):=U 2 _ rfl;have a1:w.cell? ⟨b,off+k*4+3,none⟩=some (.slice x.B x.o.cuts.length x.cb):=U 3 _ rfl;have a4:(0:Int)<=k:=by omega
   have a5:(k:Int)<l.length:=by omega
   have J:Hid ((l.take (k+1)).all xY=xY x):=jz (by
    rw[j6 K,List.all_append,HA.out,V]
    simp)
   have j:Hid (xY x=false->l.all xY=false):=jz (λh=>by
    rw[List.all_eq_false]
    exact⟨x,I,by rw[h];decide⟩)
   clear U I V;obtain⟨⟨kk,nn,dd,cc⟩,xA,a6,xB,a7⟩:=x;simp only at a0 a1 a2;have J:Hid ((l.take (k+1)).all xY = !(decide (1000<(dd.length:Int)) || decide (30<(cc.length:Int)))):=J;have j:Hid ((!(decide (1000<(dd.length:Int)) || decide (30<(cc.length:Int))))=false->l.all xY=false):=j;rcases jb (decide (1000<(dd.length:Int))) with O|O <;> rcases jb (decide (30<(cc.length:Int))) with t2|t2
   case inr.inr=>
    go_wp2_with fail
    exact⟨⟨k+1,by omega,by go_num,jz (by rw[J.out,O,t2];rfl),by trivial⟩,by simp[intOf];omega⟩
   all_goals
    have Z:Hid (l.all xY=false):=jz (j (by rw[O,t2];rfl));clear j J;go_wp2_with fail
    go_ret;refine⟨?_,rfl⟩;unfold BO;rw[Z.out];rfl
  ·obtain rfl:k=l.length:=by omega
   have D:=HA.out;rw[List.take_length] at D;have R:=jz D;clear D;rcases jb (decide (40<(l.length:Int))) with O|O
   all_goals
    go_wp2_with fail
    go_ret;refine⟨?_,rfl⟩;unfold BO;rw[R.out];simp only[decide_eq_true_eq,decide_eq_false_iff_not] at O;simp[O]
theorem RY{l:List OpR}(h:BO l≠0):l.length<=40/\∀ x∈l,x.o.data.length<=1000/\x.o.cuts.length<=30:=by
 unfold BO at h;split at h
 ·rename_i h1;split at h
  ·exact absurd rfl h
  ·refine⟨by omega,λx D=>?_⟩;have j:=List.all_eq_true.1 h1 x D;unfold xY at j;simp at j;omega
 ·exact absurd rfl h
end
section
open Go.RowKit Go.ChangeShapes Go.WideShapes Go.Deep
section
variable {H : Type} {enc : TypeId × Value -> H} {w : Wd} {base : Nat} {held : Bool} {spare : Nat -> Bool}
theorem KA{P:Program}{t e:TypeId}{k:IntKind}{fuel:Nat}{cs:Wv}{x:DataW H×List MemPlace}(ht:P.underlying t=some (.slice e))(he:P.underlying e=some (.int k))(hc:P.cellsOf e=1)
  (h:DataW.trod enc P w base spare held fuel t cs=some x):
  ∃(A:Option Addr) (cap:Nat) (zs:Wl),cs=[.slice A zs.length cap]/\Sn w 1 (.slice A zs.length cap) zs.length (zs.map (Value.int k))/\zs.length<=9223372036854775807/\∀ n∈zs,(Lit.int k n).wf=true:=by
 rcases open_ints ht he hc h with ⟨rfl,_⟩|⟨a,len,cap,zs,rfl,hb,hl,hm,O,_,D,V⟩
 ·exact⟨none,0,[],rfl,⟨none,0,rfl,ja _,by simp,λh=>absurd h (by simp)⟩,by simp,λn J=>by cases J⟩
 ·have a0:len<=zs.length:=by rw[O];split <;> omega
  have I:(zs.take len).length=len:=by simp;omega
  refine⟨some a,cap,zs.take len,by rw[I],?_,by rw[I];unfold maxLen at hm;omega,λn J=>V n (j7 J)⟩;rw[I];refine⟨some a,cap,rfl,hl,by simp;omega,λhp=>?_⟩;obtain⟨b,off,R⟩:=a;have K:R=none:=by simpa [Addr.add] using World.cell?_spot (D 0 (by omega))
  subst K;refine⟨b,off,rfl,λj u Z=>?_⟩;rw[List.getElem?_map,Option.map_eq_some_iff] at Z;obtain⟨n,J,rfl⟩:=Z;have U:j<len:=by
   have:=(List.getElem?_eq_some_iff.1 J).1;rw[I] at this;exact this
  rw[List.getElem?_take_of_lt U] at J;have:=D j (by omega);rw[jn,J] at this;by_cases hj0:j=0
  ·subst hj0;simpa [Addr.add] using this
  ·simpa [Addr.add,hj0] using this
theorem KB:∀(zs:Wl),(∀ n∈zs,(Lit.int .u8 n).wf=true)->∃ d:Bs,d.length=zs.length/\Lib.byteCells d=zs.map (Value.int .u8)
 | [],_=>⟨[],rfl,rfl⟩
 | n :: zs,h=>by
  obtain⟨d,hd,j⟩:=KB zs (λm x=>h m (by simp[x]));have D:=h n (by simp);simp[Lit.wf,IntKind.min,IntKind.max,IntKind.signed,IntKind.bits] at D;refine⟨UInt8.ofNat n.toNat :: d,by simp[hd],?_⟩;have:((UInt8.ofNat n.toNat).toNat:Int)=n:=by simp;omega
  unfold Lib.byteCells at j ⊢;rw[List.map_cons,List.map_cons,j,this]
structure OpJ(w:Wd)(x:OpR):Prop where
 i:OpI w x
 kind:aD x.o.kind
 n:aD x.o.n
 dm:x.o.data.length<=9223372036854775807
 cm:x.o.cuts.length<=9223372036854775807
 c64:∀ c∈x.o.cuts,aD c
theorem RZ{fuel:Nat}{cs:Wv}{x:DataW H×List MemPlace}(h:DataW.trod enc prog w base spare held fuel 71 cs=some x):∃ r:OpR,OpJ w r/\cs=opC r:=by
 obtain⟨K,n,_,_,hl,hx,J⟩:=DataW.trod_struct underlying71 h;have hC:prog.cellsOf 71=4:=by kernel_rfl
 rw[hC] at hl;have R:K.length=4:=hx;have g:∀ i,i<4->K[i]? = some (K[i]?.getD (.nil,[])):=λi hi=>by simp[List.getElem?_eq_getElem (show i<K.length by omega)]
 have f0:=(J 0 _ rfl).trans (g 0 (by omega));have f1:=(J 1 _ rfl).trans (g 1 (by omega));have f2:=(J 2 _ rfl).trans (g 2 (by omega));have f3:=(J 3 _ rfl).trans (g 3 (by omega));obtain⟨k0,D,_,w0⟩:=DataW.trod_int underlying3 f0;obtain⟨k1,h1,_,w1⟩:=DataW.trod_int underlying2 f1;obtain⟨A,ca,z,j,s2,U,w2⟩:=KA underlying68 underlying5 (by kernel_rfl) f2;obtain⟨B,cb,c,I,s3,m3,w3⟩:=KA underlying69 underlying3 (by kernel_rfl) f3;obtain⟨d,hd,O⟩:=KB z w2;rw[<- O,<- hd] at s2;rw[<- hd] at j U;have c0:prog.cellsOf 3=1:=by kernel_rfl
 have c1:prog.cellsOf 2=1:=by kernel_rfl
 have V:prog.cellsOf 68=1:=by kernel_rfl
 have Z:prog.cellsOf 69=1:=by kernel_rfl
 replace D:(cs.drop 0).take (prog.cellsOf 3)=[.int .i64 k0]:=D;replace h1:(cs.drop 1).take (prog.cellsOf 2)=[.int .i64 k1]:=h1;replace j:(cs.drop 2).take (prog.cellsOf 68)=[.slice A d.length ca]:=j;replace I:(cs.drop 3).take (prog.cellsOf 69)=[.slice B c.length cb]:=I;rw[c0] at D;rw[c1] at h1;rw[V] at j;rw[Z] at I;refine⟨⟨⟨k0,k1,d,c⟩,A,ca,B,cb⟩,⟨⟨s2,s3⟩,lO w0,lO w1,U,m3,λn hn=>lO (w3 n hn)⟩,?_⟩;clear f0 f1 f2 f3 J hx R g U m3 s2 s3 w0 w1 w2 w3 c0 c1 V Z hC h
 match cs,hl with
 | [v0,v1,v2,v3],_=>
  simp at D h1 j I;subst D h1 j I;rfl
theorem R1{fuel:Nat}{A:Option Addr}{len cap:Nat}{x:DataW H×List MemPlace}(h:DataW.trod enc prog w base (λ_=>true) held fuel 38 [.slice A len cap]=some x):
  ∃ l:List OpR,l.length=len/\(∀ r∈l,OpJ w r)/\Sn w 4 (.slice A len cap) len (l.flatMap opC):=
 FD opC (OpJ w) 4 (by decide) (λ_ _=>rfl) underlying38 (by kernel_rfl) (λ_ _ _ h=>RZ h) h
theorem BP{fuel:Nat}{A:Option Addr}{len cap:Nat}{x:DataW H×List MemPlace}(h:DataW.trod enc prog w base (λ_=>true) held fuel 38 [.slice A len cap]=some x):len<=9223372036854775807:=by
 rcases open_slice underlying38 h with ⟨K,_⟩|⟨a,J,I,m,n,D,Pl,j,hb,U,O,R,_,hi⟩
 ·simp only[List.cons.injEq,Value.slice.injEq,and_true] at K;omega
 ·simp only[List.cons.injEq,Value.slice.injEq,and_true] at j;unfold maxLen at O;omega
def BQ(c:ConfD):Prop:=bD c.key/\aD c.skew/\aD c.sec
theorem E8{v:Value}{r:Reach}{b0:Nat}{x:DataW H}{ps:List MemPlace}(Z:Value.okWide prog w r b0 37 v)(h:DataW.Trod enc prog w base spare held 37 v x ps):∃ c:ConfD,BQ c/\v = .agg (aQ c).toArray:=by
 simp only[Value.okWide,underlying37] at Z;obtain⟨j,rfl,_⟩:=Z;obtain⟨fuel,O⟩:=h;have R:DataW.trod enc prog w base spare held fuel 37 j.toList=some (x,ps):=O;obtain⟨J,n,_,_,hl,hx,K⟩:=DataW.trod_struct underlying37 R;have hC:prog.cellsOf 37=18:=by kernel_rfl
 rw[hC] at hl;have a0:J.length=3:=hx;have g:∀ i,i<3->J[i]? = some (J[i]?.getD (.nil,[])):=λi hi=>by simp[List.getElem?_eq_getElem (show i<J.length by omega)]
 have f0:=(K 0 _ rfl).trans (g 0 (by omega));have f1:=(K 1 _ rfl).trans (g 1 (by omega));have f2:=(K 2 _ rfl).trans (g 2 (by omega));obtain⟨d,D,hd,hb⟩:=D9 (n:=16) underlying35 (by kernel_rfl) f0;obtain⟨U,h1,_,w1⟩:=DataW.trod_int underlying2 f1;obtain⟨V,I,_,w2⟩:=DataW.trod_int underlying3 f2;have c0:prog.cellsOf 35=16:=by kernel_rfl
 have c1:prog.cellsOf 2=1:=by kernel_rfl
 have c2:prog.cellsOf 3=1:=by kernel_rfl
 replace D:(j.toList.drop 0).take (prog.cellsOf 35)=u8s d:=D;replace h1:(j.toList.drop 16).take (prog.cellsOf 2)=[.int .i64 U]:=h1;replace I:(j.toList.drop 17).take (prog.cellsOf 3)=[.int .i64 V]:=I;rw[c0,List.drop_zero] at D;rw[c1] at h1;rw[c2] at I;have hk:∀ i,(d.getD i 0).toNat<256:=λi=>by
  by_cases hi:i<d.length
  ·have:=hb (d[i]) (List.getElem_mem hi);rw[jn,List.getElem?_eq_getElem hi];simp only[Option.getD_some];omega
  ·rw[jn,List.getElem?_eq_none (by omega)]
   decide
 refine⟨⟨λi=>(d.getD i 0).toNat,U,V⟩,⟨hk,lO w1,lO w2⟩,?_⟩;have he:j.toList=aQ ⟨λi=>(d.getD i 0).toNat,U,V⟩:=by
  have e1:j.toList=j.toList.take 16++((j.toList.drop 16).take 1++(j.toList.drop 17)):=by
   have e2:j.toList.drop 17=(j.toList.drop 16).drop 1:=by rw[List.drop_drop]
   rw[e2,List.take_append_drop,List.take_append_drop]
  have e3:(j.toList.drop 17).take 1=j.toList.drop 17:=List.take_of_length_le (by rw[List.length_drop];omega);rw[e1,D,h1,<- e3,I];unfold aQ;have e4:u8s d=arr 16 (c8 λi=>(d.getD i 0).toNat):=by
   apply List.ext_getElem?;intro i;by_cases hi:i<16
   ·rw[fG _ hi,nW d i (by omega)];have:=hb (d[i]) (List.getElem_mem _);have e5:(d.getD i 0).toNat=(d[i]).toNat:=by rw[jn,List.getElem?_eq_getElem (by omega)];rfl
    show some (Value.int .u8 d[i])=some (Value.int .u8 (((d.getD i 0).toNat:Nat):Int));rw[e5,Int.toNat_of_nonneg this.1]
   ·rw[List.getElem?_eq_none (by rw[aI];omega),List.getElem?_eq_none (by rw[aB];omega)]
  rw[e4];rfl
 rw[<- he]
end
end
end Go.Proofs.YtiaigidbcljblaaGreatDoor
