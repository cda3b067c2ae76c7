import Derived.Test.YtiaigidbcljblaaGreatDoorMB1
import Derived.Deep.Slices
import Derived.OpenShut
import Derived.Defers
import Derived.Recover
import Derived.BigQuiet
set_option linter.unusedSimpArgs false
set_option maxRecDepth 100000
set_option maxHeartbeats 40000000
namespace Go.Proofs.YtiaigidbcljblaaGreatDoor
open Go.Proofs.Tryz
section
open Go.RowKit Go.ChangeShapes Go.WideShapes Go.Deep
section
variable {P : Program} {H : Type} {enc : TypeId × Value -> H} {w : Wd} {base : Nat} {held : Bool} {α : Type}
theorem iK(C:α->Wv)(Ok:α->Prop)(s:Nat)(j:∀ r,Ok r->(C r).length=s):∀ l:List α,(∀ r∈l,Ok r)->(l.flatMap C).length=l.length*s
 | [],_=>by simp
 | r :: l,h=>by
  have:=iK C Ok s j l (λr x=>h r (by simp[x]));simp[List.flatMap_cons,j r (h r (by simp)),this,Nat.add_mul];omega
theorem FD(C:α->Wv)(Ok:α->Prop)(s:Nat)(hs:0<s)(J:∀ r,Ok r->(C r).length=s){t e:TypeId}(ht:P.underlying t=some (.slice e))(hC:P.cellsOf e=s)
  (U:∀(fuel:Nat) (cs:Wv) (x:DataW H×List MemPlace),DataW.trod enc P w base (λ_=>true) held fuel e cs=some x->∃ r,Ok r/\cs=C r)
  {fuel:Nat} {A:Option Addr} {len cap:Nat} {x:DataW H×List MemPlace} (h:DataW.trod enc P w base (λ_=>true) held fuel t [.slice A len cap]=some x):
  ∃ l:List α,l.length=len/\(∀ r∈l,Ok r)/\Sn w s (.slice A len cap) len (l.flatMap C):=by
 rcases open_slice ht h with ⟨h0,_⟩|⟨a,b0,a9,m,n,D,Pl,Z,hb,hl,hm,a1,_,hi⟩
 ·simp only[List.cons.injEq,Value.slice.injEq,and_true] at h0;obtain⟨rfl,rfl,rfl⟩:=h0;exact⟨[],rfl,λ_ h=>(by cases h),⟨none,0,rfl,ja _,by simp,λh=>absurd h (by omega)⟩⟩
 ·simp only[List.cons.injEq,Value.slice.injEq,and_true] at Z;obtain⟨rfl,rfl,rfl⟩:=Z;simp only[if_true] at a1;subst a1;rw[hC] at hi;have key:∀ k,k<=len->∃ l:List α,l.length=k/\(∀ r∈l,Ok r)/\∀ j u,(l.flatMap C)[j]? = some u->w.cell? (a.add j)=some u:=by
   intro k;induction k with
   | zero=>exact λ_=>⟨[],rfl,λ_ h=>(by cases h),λj u h=>by simp at h⟩
   | succ k ih=>
    intro hk;obtain⟨l,K,O,hc⟩:=ih (by omega);obtain⟨b1,a0,a8⟩:=hi k (by omega);obtain⟨r,hr,rfl⟩:=U _ _ _ a8;obtain⟨_,a4,a3⟩:=World.cells?_some a0;have I:=iK C Ok s J l O;rw[K] at I;refine⟨l++[r],by simp[K],λr' a7=>?_,λj u R=>?_⟩
    ·rcases List.mem_append.1 a7 with h1|h1
     ·exact O r' h1
     ·simp at h1;subst h1;exact hr
    ·rw[List.flatMap_append] at R;by_cases hjk:j<k*s
     ·rw[jy (by omega)] at R;exact hc j u R
     ·rw[jx (by omega),I] at R;simp only[List.flatMap_cons,List.flatMap_nil,List.append_nil] at R;have a5:j-k*s<s:=by
       have:=(List.getElem?_eq_some_iff.1 R).1;rw[J r hr] at this;exact this
      have:=a3 (j-k*s) a5;rw[Go.Deep.add_add,show k*s+(j-k*s)=j from by omega] at this;rw[this];exact R
  obtain⟨l,K,O,hc⟩:=key len (ja _);have I:=iK C Ok s J l O;rw[K] at I;refine⟨l,K,O,some a,_,rfl,hl,I,λhp=>?_⟩;obtain⟨b,off,a2⟩:=a;have a6:∃ u,(l.flatMap C)[0]? = some u:=by
   have:0<(l.flatMap C).length:=by rw[I];exact Nat.mul_pos hp hs
   exact⟨_,List.getElem?_eq_getElem this⟩
  obtain⟨u,hu⟩:=a6;have V:a2=none:=by simpa [Addr.add] using World.cell?_spot (hc 0 u hu)
  subst V;refine⟨b,off,rfl,λj u R=>?_⟩;have:=hc j u R;by_cases hj0:j=0
  ·subst hj0;simpa [Addr.add] using this
  ·simpa [Addr.add,hj0] using this
theorem SG(C:α->Wv)(Ok:α->Prop)(s:Nat)(D:∀ r,Ok r->(C r).length=s){A:Option Addr}{cap:Nat}{l:List α}(h:Sn w s (.slice A l.length cap) l.length (l.flatMap C))(I:∀ r∈l,Ok r)(k:Nat)(O:k<l.length):
  ∃ b off,A=some ⟨b,off,none⟩/\∀ j u,(C l[k])[j]? = some u->w.cell? ⟨b,off+k*s+j,none⟩=some u:=by
 obtain⟨V,J,hv,Z,hl,U⟩:=h;injection hv with hA _ _
 subst hA;obtain⟨b,off,rfl,x⟩:=U (by omega);refine⟨b,off,rfl,λj u K=>?_⟩;have h1:=iK C Ok s D (l.take k) (λr R=>I r (j7 R));rw[jv,Nat.min_eq_left (by omega)] at h1;have key:(l.flatMap C)[k*s+j]? = some u:=by
  have e:l.flatMap C=(l.take k).flatMap C++(C l[k]++(l.drop (k+1)).flatMap C):=by
   conv=>lhs;rw[<- List.take_append_drop k l,List.drop_eq_getElem_cons O]
   rw[List.flatMap_append,List.flatMap_cons]
  rw[e,jx (by omega),h1,Nat.add_sub_cancel_left,jy]
  ·exact K
  ·exact(List.getElem?_eq_some_iff.1 K).1
 have:=x (k*s+j) u key;rw[<- Nat.add_assoc] at this;exact this
end
end
section
open Go.RowKit
theorem I1{α:Type}(C:α->Wv)(Ok:α->Prop)(s:Nat)(D:∀ r,Ok r->(C r).length=s){w:Wd}{base e g cap:Nat}{L:List α}(R:w.ownsRow base e s (.slice (some ⟨g,0,none⟩) L.length cap) L.length (L.flatMap C))(O:∀ r∈L,Ok r)(k:Nat)(V:k<L.length)(p:α)(hp:Ok p):
  (w.setCells g (k*s) (C p)).ownsRow base e s (.slice (some ⟨g,0,none⟩) L.length cap) (L.set k p).length ((L.set k p).flatMap C)/\w.there g (k*s) (C p).length/\base<=g:=by
 obtain⟨hl,h|⟨g',a2,I,hv,hb,hh,J,hm,a0,U⟩⟩:=R
 ·cases h.1
 ·injection hv with hv1 _ hv2
  injection hv1 with hv1
  injection hv1 with hv1 _ _
  subst hv1 hv2;have Z:Blk w g e I:=hh;have K:=D p hp;have a1:=D L[k] (O _ (List.getElem_mem V));have e1:L.flatMap C=(L.take k).flatMap C++(C L[k]++(L.drop (k+1)).flatMap C):=by
   conv=>lhs;rw[<- List.take_append_drop k L,List.drop_eq_getElem_cons V]
   rw[List.flatMap_append,List.flatMap_cons]
  have e2:(L.set k p).flatMap C=(L.take k).flatMap C++(C p++(L.drop (k+1)).flatMap C):=by
   rw[List.set_eq_take_append_cons_drop,jP V,List.flatMap_append,List.flatMap_cons]
  have h1:=iK C Ok s D (L.take k) (λr hr=>O r (j7 hr));rw[jv,Nat.min_eq_left (by omega)] at h1;have a4:k*s+s<=L.length*s:=by
   have:=Nat.mul_le_mul_right s (show k+1<=L.length from V);rw[Nat.add_mul,Nat.one_mul] at this;exact this
  have a3:=Nat.mul_le_mul_right s J;have a5:=hl;rw[e1] at U;refine⟨⟨?_,.inr ⟨g,cap,_,by rw[List.length_set],hb,dJ (C p) (k*s) w I Z,by rw[List.length_set];exact J,hm,by rw[l6];exact a0,?_⟩⟩,λj hj=>⟨?_,Z.frozen _⟩,hb⟩
  ·rw[e2,List.length_set];rw[e1] at hl;simp only[jj] at hl ⊢;omega
  ·rw[List.length_set,e2];apply List.ext_getElem?;intro i;have x:((L.take k).flatMap C++(C L[k]++(L.drop (k+1)).flatMap C))[i]? = if i<L.length*s then I[i]? else none:=by
    rw[<- U,List.getElem?_take];simp
   rw[List.getElem?_take,Array.getElem?_toList,mY,K];by_cases i1:i<k*s
   ·rw[jP (by omega),jQ (by omega),jy (by omega)];rw[jy (by omega),jP (by omega)] at x;exact x.symm
   ·rw[jx (by omega),h1];rw[jx (by omega),h1] at x;by_cases i2:i<k*s+s
    ·rw[jP (by omega),jP (by omega),jy (by omega)]
    ·rw[jx (by omega)] at x ⊢;rw[K];rw[a1] at x;rw[x];by_cases i3:i<L.length*s
     ·rw[jP i3,jP i3,jQ (by omega)]
     ·rw[jQ i3,jQ i3]
  ·rw[Z.cell];have:k*s+j<I.size:=by omega
   simp[this]
def pQ(c:Int):Option Int->Value
 | none=>.iface 29 (.int .i64 c)
 | some at_=>.iface 145 (.agg #[.int .i64 c,.int .i64 at_])
theorem zU(p:Value)(w:Wd):(Instr.typeAssert (.iface 29 p) 42 29 true).run prog w = .ok (.tuple #[p,.bool true]) w:=by kernel_rfl
theorem xL(p:Value)(w:Wd):(Instr.typeAssert (.iface 145 p) 42 29 true).run prog w = .ok (.tuple #[.int .i64 0,.bool false]) w:=by kernel_rfl
theorem sY(p:Value)(w:Wd):(Instr.typeAssert (.iface 145 p) 42 198 true).run prog w = .ok (.tuple #[.iface 145 p,.bool true]) w:=by kernel_rfl
theorem B8(n:String)(f:String->Bool)(g:String->String):∃ m,(Instr.least ([n].partition f).2 <|> Instr.least (([n].partition f).1.map g))=some m:=by
 cases hf:f n <;> simp[List.partition,List.partition.loop,hf,Instr.least]
theorem B9(j:Array (String×TypeId))(x:Array Method)(n:String)(h:(j.toList.filter fun(D,I)=>!x.any λm=>m.name == D && m.sig == I).map (·.1)=[n]):∃ m,Instr.missingMethod j x=some m:=by
 unfold Instr.missingMethod;simp only[h];exact B8 n _ _
theorem mA{P:Program}(w:Wd)(t xt a:TypeId)(v z:Value)(j:Array (String×TypeId))(i:TypeInfo)(n:String)(J:P.underlying a=some (.interface j))(hi:P.info? t=some i)
  (h:(j.toList.filter fun(x,D)=>!i.methods.any λm=>m.name == x && m.sig == D).map (·.1)=[n]) (K:(zeroValue a).run P w = .ok z w):
  (Instr.typeAssert (.iface t v) xt a true).run P w = .ok (.tuple #[z,.bool false]) w:=by
 obtain⟨m,I⟩:=B9 j i.methods n h;simp only[Instr.typeAssert];simp[run_underlying J,typeInfo,hi,I,K]
theorem uG(p:Value)(w:Wd):(Instr.typeAssert (.iface 29 p) 42 198 true).run prog w = .ok (.tuple #[.nilIface,.bool false]) w:=by
 have h : (prog.info? 29).map (λi => ((#[("Unwrap", 156)] : Array (String × TypeId)).toList.filter λ(j, x) => !i.methods.any λm => m.name == j && m.sig == x).map (·.1)) = some ["Unwrap"] := by kernel_rfl
 obtain⟨i,hi,D⟩:=Option.map_eq_some_iff.1 h;exact mA w 29 42 198 p .nilIface #[("Unwrap", 156)] i "Unwrap" (by kernel_rfl) hi D (by kernel_rfl)
theorem sZ(c:Int)(b:Nat)(w:Wd)(x:Value)(D:w.cell? ⟨b,0,none⟩=some x)(j:w.frozen? ⟨b,0,none⟩=false):
  Wc 65 #[.iface 29 (.int .i64 c),.pointer (some ⟨b,0,none⟩)] w λe w'=>e = .returned (.bool true)/\w.setCell ⟨b,0,none⟩ (.int .i64 c)=w':=by
 have h1:=zU;go_enter func65,ntmps65
 go_wp2
 go_ret;exact⟨rfl,rfl⟩
theorem qU(p:Value)(b:Nat)(w:Wd):
  Wc 65 #[.iface 145 p,.pointer (some ⟨b,0,none⟩)] w λe w'=>e = .returned (.bool false)/\w=w':=by
 have h1:=xL;go_enter func65,ntmps65
 go_wp2
 go_ret;exact⟨rfl,rfl⟩
theorem uH (p : Value) (w : Wd) : (method 587 145 p "Unwrap").run prog w = .ok (374, p) w := by kernel_rfl
theorem zV(c a:Int)(w:Wd):
  Wc 374 #[.agg #[.int .i64 c,.int .i64 a]] w (Rt w (.iface 29 (.int .i64 c))):=by
 go_enter func374,ntmps374
 go_wp2
 go_ret;exact⟨rfl,(ji _ _).alloc (ja _) _⟩
theorem r9(w:Wd):
  CallsD prog 97 #[] .returning w λe x w'=>e = .returned (.tuple #[])/\x = .returning/\w=w':=by
 refine callsD_of_wpS func97 rfl λj cs D=>?_
 apply wpS_region;cases j
 simp_all[wpOpsS,go_sem,recoverD,ntmps97,bodyPostS,results,Tryz.results97]
theorem CB(W w:Wd)(c:Int)(o:Option Int)(hb:Bw W w)(x:Value)
  (Z:w.cell? ⟨W.heap.size,0,none⟩=some x) (U:w.frozen? ⟨W.heap.size,0,none⟩=false):
  Wc 64 #[pQ c o,.func (.func 65) #[] #[.pointer (some ⟨W.heap.size,0,none⟩)]] w λe w'=>e = .returned (.tuple #[])/\Bw W w'/\w'.cell? ⟨W.heap.size,0,none⟩=some (.int .i64 c):=by
 go_enter_defers func64,ntmps64
 go_wp2_with fail
 go_loopw [0,6] (λe i wr=>∃(k:Nat) (u:Value),k<=1/\i = .int .i64 k/\Bw W wr/\wr.cell? ⟨W.heap.size,0,none⟩=some u/\wr.frozen? ⟨W.heap.size,0,none⟩=false/\((k=0/\e=pQ c o)\/e = .iface 29 (.int .i64 c))) (λ_ i _=>65536-(intOf i).toNat)
 case atStart=>exact⟨0,x,by omega,rfl,hb,Z,U,.inl ⟨rfl,rfl⟩⟩
 case round=>
  obtain⟨k,u,hk,rfl,J,j,hfr,D⟩:=hrel;have h2:=sY;have h3:=uG;have h5:=uH;have V:decide ((k:Int)<65536)=true:=by simp;omega
  rcases(show(_=Value.iface 29 (.int .i64 c))\/(∃ a,k=0/\_=Value.iface 145 (.agg #[.int .i64 c,.int .i64 a])) from by
   rcases D with ⟨O,D⟩|D
   ·cases o with
    | none=>exact .inl D
    | some a=>exact .inr ⟨a,O,D⟩
   ·exact .inl D) with rfl|⟨a,O,rfl⟩
  ·clear D;go_wp2_with fail
   refine(sZ c W.heap.size wr u j hfr).mono ?_;rintro e w' ⟨rfl,rfl⟩;go_wp2_with fail
   refine leaves_cons (f:=97) (args:=#[]) (by simp) (by simp[go_sem]) ?_;refine(r9 _).mono ?_;rintro e u' w'' ⟨rfl,rfl,rfl⟩;refine⟨_,results_none rfl _ _ _,rfl,J.setCell (ja _) _,?_⟩;simp[go_sem,j]
  ·clear D;have R:k+1<=1:=by omega
   clear O;go_wp2_with fail
   refine(qU _ W.heap.size wr).mono ?_;rintro e w' ⟨rfl,rfl⟩;go_wp2_with fail
   refine(zV c a wr).mono ?_;rintro e w1 ⟨rfl,I⟩;have K:=dV j;go_wp2_with fail
   exact⟨⟨k+1,u,R,by go_num,J.trans (I.mono J.size),j9 I j,(I.frozen K).trans hfr,.inr rfl⟩,by simp[intOf];omega⟩
theorem I2(fn:Fn)(first cap:Wa)(w:Wd):(Instr.makeFunc fn first cap).run prog w = .ok (.func fn first cap) w:=rfl
theorem KF(w:Wd)(c:Int)(o:Option Int):
  Wc 34 #[pQ c o] w (Rt w (.int .i64 c)):=by
 have K:=I2;have j:=fun(I:Wd) (hb:Bw w I) x O J=>CB w I c o hb x O J
 obtain⟨v,D⟩:=je (pQ c o);rw[<- D] at j ⊢;clear D;go_enter func34,ntmps34
 go_wp2_with fail
 refine(j (w.alloc (.cells #[.int .i64 0] 29)) ((ji _ _).alloc (ja _) _) (.int .i64 0) (by simp[go_sem]) (by simp[go_sem])).mono ?_;rintro e w' ⟨rfl,hb,R⟩;clear j;go_wp2
 go_ret;exact⟨rfl,hb⟩
theorem FE(f:Value)(w:Wd):
  Wc 64 #[.nilIface,f] w λe w'=>e = .returned (.tuple #[])/\w=w':=by
 go_enter_defers func64,ntmps64
 go_wp2_with fail
 go_loop [0,6] (λe i=>e = .nilIface/\i = .int .i64 0) (λ_ _=>0)
 case atStart=>exact⟨rfl,rfl⟩
 case round=>
  obtain⟨rfl,rfl⟩:=hrel;go_wp2_with fail
  refine leaves_cons (f:=97) (args:=#[]) (by simp) (by simp[go_sem]) ?_;refine(r9 _).mono ?_;rintro e j w'' ⟨rfl,rfl,rfl⟩;exact⟨_,results_none rfl _ _ _,rfl,rfl⟩
theorem NY(w:Wd):
  Wc 34 #[.nilIface] w (Rt w (.int .i64 0)):=by
 have j:=I2;go_enter func34,ntmps34
 go_wp2_with (go_at_call 64;refine(FE _ _).mono ?_;rintro e w' ⟨rfl,rfl⟩)
 go_ret;exact⟨rfl,(ji _ _).alloc (ja _) _⟩
end
section
open Go.RowKit
attribute [local irreducible] wpQuiet wpAnyH
theorem uI{A:Option Addr}{i j m s k c:Nat}:∀ b,(sliced A i j m s).ownBlock=some b->(Value.slice A k c).ownBlock=some b:=by
 intro b h;unfold Go.sliced at h;cases A with
 | none=>split at h <;> simp[Value.ownBlock] at h
 | some a=>
  obtain⟨p,o,z⟩:=a;split at h
  ·exact h
  ·simp only[Value.ownBlock,Option.map_some,Addr.add] at h;split at h <;> exact h
theorem pR(V:Value)(n:Nat)(O:Wv)(w:Wd)(hs:Sn w 1 V n O)(h1:∀ u∈O,u.oneCell'=true)(hn:n<=1000000):
  Wc 215 #[V] w λe w'=>∃ v,e = .returned v/\Sn w' 1 v n O/\(∀ b,v.ownBlock=some b->w.heap.size<=b)/\Bw w w':=by
 obtain⟨A,cap,rfl,R,hl,U⟩:=id hs;have Z:=jz hs;have HX:=jz U;clear U;cases A with
 | none=>
  have I:∀ w:Wd,(binOp .eql 68 (.slice none n cap) (.slice none 0 0)).run prog w = .ok (.bool true) w:=λ_=>rfl
  go_enter func215,ntmps215
  go_wp2_with fail
  go_ret;have K:n=0:=by
   rcases Nat.eq_zero_or_pos n with h|h
   ·exact h
   ·obtain⟨b,off,e,_⟩:=HX.out h;cases e
  subst K;exact⟨_,rfl,⟨none,0,rfl,ja _,hl,λh=>absurd h (by omega)⟩,(λb e=>by cases e),ji _ _⟩
 | some a=>
  have I:∀ w:Wd,(binOp .eql 68 (.slice (some a) n cap) (.slice none 0 0)).run prog w = .ok (.bool false) w:=λ_=>rfl
  have x:(w.alloc (.cells #[] 5)).ownsRow w.heap.size 5 1 (.slice (some ⟨w.heap.size,0,none⟩) 0 0) 0 []:=tF w #[] 5 1 0 w.heap.size w.heap.size (ja _) rfl (by unfold maxLen;omega) rfl;go_enter func215,ntmps215
  clear hs;go_wp2_with (at_builtin;refine app tY (.tmp 5) (.tmp 6) rfl rfl rfl x rfl (Z.alloc _) h1 (by unfold maxLen;omega) (by omega) (by simp) ?_;intro v' w3 j D _)
  go_ret;have hb:Bw w w3:=((ji _ w).alloc (ja _) _).grown D (by simp) (λg hg=>by have:=(x.lt g hg).1;omega);have J:=j.lt;have:=Sn.own j;rw[Nat.zero_add,List.nil_append] at this;exact⟨_,rfl,this,λb e=>(J b e).1,hb⟩
theorem x8(O:Value)(x:Wl)(w:Wd)(hs:Sn w 1 O x.length (u8s x))(V:x.length<=1000000):
  Wc 157 #[O] w λe w'=>∃ r v,e = .returned (.pointer (some ⟨r,0,none⟩))/\RD w' r v x false/\(∀ b,v.ownBlock=some b->w.heap.size<=b)/\w.heap.size<=r/\Bw w w':=by
 have U:=jz hs;clear hs;go_enter func157,ntmps157
 go_wp2_with fail
 refine(pR O x.length (u8s x) w U (bR x) V).mono ?_;rintro e w1 ⟨v,rfl,j,hfr,D⟩;obtain⟨A,cap,rfl,R,Z,_⟩:=id j;have K:=jz j;have I:=D.size;have J:=jz hfr;clear j hfr;go_wp2_with fail
 go_ret;exact⟨_,_,rfl,⟨Blk.new _ _ _,K.alloc _⟩,J,I,D.alloc I _⟩
theorem uJ(r:Nat)(v:Value)(j:Wl)(bad:Bool)(n:Nat)(w:Wd)(h:RD w r v j bad)(hl:j.length<=1000000):
    Wc 217 #[.pointer (some ⟨r,0,none⟩),.int .u64 n] w λe w'=>Off r w w' /\
      ((bad = false /\ n <= j.length /\ ∃ x v', e = .returned (.tuple #[x, .bool true]) /\ Sn w' 1 x n (u8s (j.take n)) /\ RD w' r v' (j.drop n) false /\ ∀ b, v'.ownBlock = some b -> v.ownBlock = some b) \/
       ((bad=true\/j.length<n)/\e = .returned (.tuple #[.slice none 0 0,.bool false])/\RD w' r (.slice none 0 0) [] true)):=by
  obtain⟨O,hs⟩:=h;obtain⟨A,cap,rfl,U,a6,_⟩:=id hs;have HS:=jz hs;have K:=jz O;have h0:=O.cell 0;have h1:=O.cell 1;have f0:=O.frozen 0;simp only[jf,jg,jh] at h0 h1;have I:bad=true\/bad=false/\decide (j.length<n)=true\/bad=false/\decide (j.length<n)=false:=by
    cases bad <;> cases decide (j.length<n) <;> simp
  clear O hs;rcases I with rfl|⟨rfl,t1⟩|⟨rfl,t1⟩
  · go_enter func217,ntmps217
    go_wp2_with fail
    refine(tG r _ true w K).mono ?_;rintro e w1 ⟨rfl,hR,J⟩;go_wp2_with fail
    go_ret2
    exact⟨J,.inr ⟨.inl trivial,rfl,hR⟩⟩
  · go_enter func217,ntmps217
    go_wp2_with fail
    refine(tG r _ false w K).mono ?_;rintro e w1 ⟨rfl,hR,J⟩;go_wp2_with fail
    go_ret2
    exact⟨J,.inr ⟨.inr (by have:=of_decide_eq_true t1;omega),rfl,hR⟩⟩
  · have hn:n<=j.length:=by have:=of_decide_eq_false t1;omega
    have a4:(n:Int)<=cap:=by omega
    have a5:(n:Int)<=j.length:=by omega
    have a3:(0:Int)<=n:=by omega
    have a7:=underlying68;go_enter func217,ntmps217
    have a0:Hid (Sn w 1 (sliced A 0 n n 1) n (u8s (j.take n))):=jz (by
      have:=HS.sliced 0 n n (by omega) hn (ja _)
      rw[mV]
      simpa using this)
    have a1:Hid (Sn w 1 (sliced A n j.length cap 1) (j.drop n).length (u8s (j.drop n))):=jz (by
      have:=HS.sliced n j.length cap hn (ja _) U
      rw[pN,List.length_drop]
      have e:(u8s j).take (j.length*1)=u8s j:=List.take_of_length_le (by rw[aI];omega)
      rw[e] at this
      simpa using this)
    have a2:=jz (K.set_ 0 (sliced A n j.length cap 1));have J:Off r w (w.setCell ⟨r,0,none⟩ (sliced A n j.length cap 1)):=(Off.refl r w).set 0 _;have Z:=jz J;clear J;by_cases hcn:cap=n
    all_goals
      go_wp2_with fail
      go_ret2
      have D:=a0.offB K rfl Z.out;have V:=a1.offB K rfl Z.out;have e2:sliced A 0 n n 1 = .slice A n n:=by
        unfold Go.sliced;cases A with
        | none=>simp
        | some a=>obtain⟨b,o,s⟩:=a;simp[Addr.add]
      have R:=a2.out;rw[e2] at D;refine⟨?_,.inl ⟨trivial,hn,_,sliced A n j.length cap 1,rfl,?_,?_⟩⟩
    · have e3:sliced A n j.length cap 1 = .slice A (j.length-n) 0:=by simp[Go.sliced,hcn]
      rw[<- e3];exact Z.out
    · have e3:sliced A n j.length cap 1 = .slice A (j.length-n) 0:=by simp[Go.sliced,hcn]
      rw[e3] at D;exact D
    · have e3:sliced A n j.length cap 1 = .slice A (j.length-n) 0:=by simp[Go.sliced,hcn]
      rw[<- e3];exact⟨⟨R,V⟩,uI⟩
    · have e3:sliced A n j.length cap 1 = .slice (A.map (·.add n)) (j.length-n) (cap-n):=by simp[Go.sliced,hcn]
      rw[<- e3];exact Z.out
    · have e3:sliced A n j.length cap 1 = .slice (A.map (·.add n)) (j.length-n) (cap-n):=by simp[Go.sliced,hcn]
      rw[e3] at D;exact D
    · have e3:sliced A n j.length cap 1 = .slice (A.map (·.add n)) (j.length-n) (cap-n):=by simp[Go.sliced,hcn]
      rw[<- e3];exact⟨⟨R,V⟩,uI⟩
theorem CC(r:Nat)(v:Value)(I:Wl)(bad:Bool)(n:Nat)(w:Wd)(h:RD w r v I bad)(hl:I.length<=1000000)(hn:n<=1000000):
    Wc 223 #[.pointer (some ⟨r,0,none⟩),.int .i64 n] w λe w'=>Off r w w' /\
      ((bad = false /\ n <= I.length /\ ∃ x v', e = .returned x /\ Sn w' 1 x n (u8s (I.take n)) /\ RD w' r v' (I.drop n) false /\ ∀ b, v'.ownBlock = some b -> v.ownBlock = some b) \/
       ((bad=true\/I.length<n)/\e = .returned (.slice none 0 0)/\RD w' r (.slice none 0 0) [] true)):=by
  go_enter func223,ntmps223
  have HR:=jz h;have a3:(0:Int)<=n:=by omega
  have a4:(n:Int)<=1000000:=by omega
  clear h;go_wp2_with fail
  refine(uJ r v I bad n w HR hl).mono ?_;rintro e w1 ⟨V,⟨rfl,O,x,v',rfl,U,K,R⟩|⟨D,rfl,K⟩⟩
  · have HO:=jz V;have j:=jz K;have a1:=jz U;have HK:=jz O;have a0:=jz R;clear V K U O R;go_wp2_with fail
    refine(mW x n (u8s (I.take n)) w1 a1 (bR _) hn).mono ?_;rintro e w2 ⟨y,rfl,a2,J⟩;go_wp2_with fail
    go_ret;exact⟨HO.trans (Off.of_below J),.inl ⟨HK,y,rfl,a2,v',⟨j.out.1.keep J,j.out.2.below J⟩,a0⟩⟩
  · have HO:=jz V;have j:=jz K;have Z:=jz D;clear V K D;go_wp2_with fail
    go_ret;exact⟨HO,.inr ⟨Z,rfl,j⟩⟩
end
end Go.Proofs.YtiaigidbcljblaaGreatDoor
