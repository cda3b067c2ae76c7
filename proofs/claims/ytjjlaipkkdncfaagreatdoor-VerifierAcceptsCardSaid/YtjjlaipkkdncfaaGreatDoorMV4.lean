import Derived.Test.YtjjlaipkkdncfaaGreatDoorMV1
import Derived.Deep.Slices
import Derived.OpenShut
import Derived.Defers
import Derived.Recover
import Derived.BigQuiet
import Derived.Test.YtjjlaipkkdncfaaGreatDoorMV2
set_option linter.unusedSimpArgs false
set_option maxRecDepth 100000
set_option maxHeartbeats 40000000
namespace Go.Proofs.YtjjlaipkkdncfaaGreatDoor
open Go.Proofs.Tryz
section
open Go.RowKit Go.ChangeShapes Go.WideShapes Go.Deep
section
variable {P : Program} {H : Type} {enc : TypeId × Value -> H} {w : Wd} {base : Nat} {held : Bool} {α : Type}
theorem mL(C:α->Wv)(Ok:α->Prop)(s:Nat)(D:∀ r,Ok r->(C r).length=s):∀ l:List α,(∀ r∈l,Ok r)->(l.flatMap C).length=l.length*s
 | [],_=>by simp
 | r :: l,h=>by
  have:=mL C Ok s D l (λr I=>h r (by simp[I]));simp[List.flatMap_cons,D r (h r (by simp)),this,Nat.add_mul];omega
theorem QF(C:α->Wv)(Ok:α->Prop)(s:Nat)(I:∀ r,Ok r->(C r).length=s){A:Option Addr}{cap:Nat}{l:List α}(h:Sn w s (.slice A l.length cap) l.length (l.flatMap C))(J:∀ r∈l,Ok r)(k:Nat)(R:k<l.length):
  ∃ b off,A=some ⟨b,off,none⟩/\∀ j u,(C l[k])[j]? = some u->w.cell? ⟨b,off+k*s+j,none⟩=some u:=by
 obtain⟨Z,K,hv,hc,hl,V⟩:=h;injection hv with hA _ _
 subst hA;obtain⟨b,off,rfl,D⟩:=V (by omega);refine⟨b,off,rfl,λj u O=>?_⟩;have h1:=mL C Ok s I (l.take k) (λr U=>J r (j7 U));rw[jv,Nat.min_eq_left (by omega)] at h1;have key:(l.flatMap C)[k*s+j]? = some u:=by
  have e:l.flatMap C=(l.take k).flatMap C++(C l[k]++(l.drop (k+1)).flatMap C):=by
   conv=>lhs;rw[<- List.take_append_drop k l,List.drop_eq_getElem_cons R]
   rw[List.flatMap_append,List.flatMap_cons]
  rw[e,jx (by omega),h1,Nat.add_sub_cancel_left,jy]
  ·exact O
  ·exact(List.getElem?_eq_some_iff.1 O).1
 have:=D (k*s+j) u key;rw[<- Nat.add_assoc] at this;exact this
end
end
section
open Go.RowKit
theorem GQ{α:Type}(C:α->Wv)(Ok:α->Prop)(s:Nat)(I:∀ r,Ok r->(C r).length=s){w:Wd}{base e g cap:Nat}{L:List α}(U:w.ownsRow base e s (.slice (some ⟨g,0,none⟩) L.length cap) L.length (L.flatMap C))(R:∀ r∈L,Ok r)(k:Nat)(Z:k<L.length)(p:α)(hp:Ok p):
  (w.setCells g (k*s) (C p)).ownsRow base e s (.slice (some ⟨g,0,none⟩) L.length cap) (L.set k p).length ((L.set k p).flatMap C)/\w.there g (k*s) (C p).length/\base<=g:=by
 obtain⟨hl,h|⟨g',a2,J,hv,hb,hh,K,hm,a0,V⟩⟩:=U
 ·cases h.1
 ·injection hv with hv1 _ hv2
  injection hv1 with hv1
  injection hv1 with hv1 _ _
  subst hv1 hv2;have hB:Blk w g e J:=hh;have O:=I p hp;have a1:=I L[k] (R _ (List.getElem_mem Z));have e1:L.flatMap C=(L.take k).flatMap C++(C L[k]++(L.drop (k+1)).flatMap C):=by
   conv=>lhs;rw[<- List.take_append_drop k L,List.drop_eq_getElem_cons Z]
   rw[List.flatMap_append,List.flatMap_cons]
  have e2:(L.set k p).flatMap C=(L.take k).flatMap C++(C p++(L.drop (k+1)).flatMap C):=by
   rw[List.set_eq_take_append_cons_drop,jP Z,List.flatMap_append,List.flatMap_cons]
  have h1:=mL C Ok s I (L.take k) (λr hr=>R r (j7 hr));rw[jv,Nat.min_eq_left (by omega)] at h1;have a4:k*s+s<=L.length*s:=by
   have:=Nat.mul_le_mul_right s (show k+1<=L.length from Z);rw[Nat.add_mul,Nat.one_mul] at this;exact this
  have a3:=Nat.mul_le_mul_right s K;have a5:=hl;rw[e1] at V;refine⟨⟨?_,.inr ⟨g,cap,_,by rw[List.length_set],hb,dM (C p) (k*s) w J hB,by rw[List.length_set];exact K,hm,by rw[lK];exact a0,?_⟩⟩,λj hj=>⟨?_,hB.frozen _⟩,hb⟩
  ·rw[e2,List.length_set];rw[e1] at hl;simp only[jj] at hl ⊢;omega
  ·rw[List.length_set,e2];apply List.ext_getElem?;intro i;have D:((L.take k).flatMap C++(C L[k]++(L.drop (k+1)).flatMap C))[i]? = if i<L.length*s then J[i]? else none:=by
    rw[<- V,List.getElem?_take];simp
   rw[List.getElem?_take,Array.getElem?_toList,mJ,O];by_cases i1:i<k*s
   ·rw[jP (by omega),jQ (by omega),jy (by omega)];rw[jy (by omega),jP (by omega)] at D;exact D.symm
   ·rw[jx (by omega),h1];rw[jx (by omega),h1] at D;by_cases i2:i<k*s+s
    ·rw[jP (by omega),jP (by omega),jy (by omega)]
    ·rw[jx (by omega)] at D ⊢;rw[O];rw[a1] at D;rw[D];by_cases i3:i<L.length*s
     ·rw[jP i3,jP i3,jQ (by omega)]
     ·rw[jQ i3,jQ i3]
  ·rw[hB.cell];have:k*s+j<J.size:=by omega
   simp[this]
def o0(c:Int):Option Int->Value
 | none=>.iface 58 (.int .i64 c)
 | some at_=>.iface 305 (.agg #[.int .i64 c,.int .i64 at_])
theorem yX(p:Value)(w:Wd):(Instr.typeAssert (.iface 58 p) 46 58 true).run prog w = .ok (.tuple #[p,.bool true]) w:=by kernel_rfl
theorem wK(p:Value)(w:Wd):(Instr.typeAssert (.iface 305 p) 46 58 true).run prog w = .ok (.tuple #[.int .i64 0,.bool false]) w:=by kernel_rfl
theorem sI(p:Value)(w:Wd):(Instr.typeAssert (.iface 305 p) 46 318 true).run prog w = .ok (.tuple #[.iface 305 p,.bool true]) w:=by kernel_rfl
theorem AW(n:String)(f:String->Bool)(g:String->String):∃ m,(Instr.least ([n].partition f).2 <|> Instr.least (([n].partition f).1.map g))=some m:=by
 cases hf:f n <;> simp[List.partition,List.partition.loop,hf,Instr.least]
theorem AX(D:Array (String×TypeId))(I:Array Method)(n:String)(h:(D.toList.filter fun(J,K)=>!I.any λm=>m.name == J && m.sig == K).map (·.1)=[n]):∃ m,Instr.missingMethod D I=some m:=by
 unfold Instr.missingMethod;simp only[h];exact AW n _ _
theorem lL{P:Program}(w:Wd)(t xt a:TypeId)(v z:Value)(D:Array (String×TypeId))(i:TypeInfo)(n:String)(O:P.underlying a=some (.interface D))(hi:P.info? t=some i)
  (h:(D.toList.filter fun(I,J)=>!i.methods.any λm=>m.name == I && m.sig == J).map (·.1)=[n]) (R:(zeroValue a).run P w = .ok z w):
  (Instr.typeAssert (.iface t v) xt a true).run P w = .ok (.tuple #[z,.bool false]) w:=by
 obtain⟨m,K⟩:=AX D i.methods n h;simp only[Instr.typeAssert];simp[run_underlying O,typeInfo,hi,K,R]
theorem tU(p:Value)(w:Wd):(Instr.typeAssert (.iface 58 p) 46 318 true).run prog w = .ok (.tuple #[.nilIface,.bool false]) w:=by
 have h : (prog.info? 58).map (λi => ((#[("Unwrap", 47)] : Array (String × TypeId)).toList.filter λ(D, I) => !i.methods.any λm => m.name == D && m.sig == I).map (·.1)) = some ["Unwrap"] := by kernel_rfl
 obtain⟨i,hi,J⟩:=Option.map_eq_some_iff.1 h;exact lL w 58 46 318 p .nilIface #[("Unwrap", 47)] i "Unwrap" (by kernel_rfl) hi J (by kernel_rfl)
theorem sJ(c:Int)(b:Nat)(w:Wd)(x:Value)(I:w.cell? ⟨b,0,none⟩=some x)(D:w.frozen? ⟨b,0,none⟩=false):
  Wc 179 #[.iface 58 (.int .i64 c),.pointer (some ⟨b,0,none⟩)] w λe w'=>e = .returned (.bool true)/\w.setCell ⟨b,0,none⟩ (.int .i64 c)=w':=by
 have h1:=yX;go_enter func179,ntmps179
 go_wp2
 go_ret;exact⟨rfl,rfl⟩
theorem pY(p:Value)(b:Nat)(w:Wd):
  Wc 179 #[.iface 305 p,.pointer (some ⟨b,0,none⟩)] w λe w'=>e = .returned (.bool false)/\w=w':=by
 have h1:=wK;go_enter func179,ntmps179
 go_wp2
 go_ret;exact⟨rfl,rfl⟩
theorem tV (p : Value) (w : Wd) : (method 485 305 p "Unwrap").run prog w = .ok (283, p) w := by kernel_rfl
theorem yY(c a:Int)(w:Wd):
  Wc 283 #[.agg #[.int .i64 c,.int .i64 a]] w (Rt w (.iface 58 (.int .i64 c))):=by
 go_enter func283,ntmps283
 go_wp2
 go_ret;exact⟨rfl,(ji _ _).alloc (ja _) _⟩
theorem rL(w:Wd):
  CallsD prog 218 #[] .returning w λe I w'=>e = .returned (.tuple #[])/\I = .returning/\w=w':=by
 refine callsD_of_wpS func218 rfl λD cs J=>?_
 apply wpS_region;cases D
 simp_all[wpOpsS,go_sem,recoverD,ntmps218,bodyPostS,results,Tryz.results218]
theorem AY(W w:Wd)(c:Int)(o:Option Int)(hb:Bw W w)(x:Value)
  (hx:w.cell? ⟨W.heap.size,0,none⟩=some x) (V:w.frozen? ⟨W.heap.size,0,none⟩=false):
  Wc 178 #[o0 c o,.func (.func 179) #[] #[.pointer (some ⟨W.heap.size,0,none⟩)]] w λe w'=>e = .returned (.tuple #[])/\Bw W w'/\w'.cell? ⟨W.heap.size,0,none⟩=some (.int .i64 c):=by
 go_enter_defers func178,ntmps178
 go_wp2_with fail
 go_loopw [0,6] (λe i wr=>∃(k:Nat) (u:Value),k<=1/\i = .int .i64 k/\Bw W wr/\wr.cell? ⟨W.heap.size,0,none⟩=some u/\wr.frozen? ⟨W.heap.size,0,none⟩=false/\((k=0/\e=o0 c o)\/e = .iface 58 (.int .i64 c))) (λ_ i _=>65536-(intOf i).toNat)
 case atStart=>exact⟨0,x,by omega,rfl,hb,hx,V,.inl ⟨rfl,rfl⟩⟩
 case round=>
  obtain⟨k,u,hk,rfl,K,D,hfr,I⟩:=hrel;have h2:=sI;have h3:=tU;have h5:=tV;have Z:decide ((k:Int)<65536)=true:=by simp;omega
  rcases(show(_=Value.iface 58 (.int .i64 c))\/(∃ a,k=0/\_=Value.iface 305 (.agg #[.int .i64 c,.int .i64 a])) from by
   rcases I with ⟨R,I⟩|I
   ·cases o with
    | none=>exact .inl I
    | some a=>exact .inr ⟨a,R,I⟩
   ·exact .inl I) with rfl|⟨a,R,rfl⟩
  ·clear I;go_wp2_with fail
   refine(sJ c W.heap.size wr u D hfr).mono ?_;rintro e w' ⟨rfl,rfl⟩;go_wp2_with fail
   refine leaves_cons (f:=218) (args:=#[]) (by simp) (by simp[go_sem]) ?_;refine(rL _).mono ?_;rintro e u' w'' ⟨rfl,rfl,rfl⟩;refine⟨_,results_none rfl _ _ _,rfl,K.setCell (ja _) _,?_⟩;simp[go_sem,D]
  ·clear I;have U:k+1<=1:=by omega
   clear R;go_wp2_with fail
   refine(pY _ W.heap.size wr).mono ?_;rintro e w' ⟨rfl,rfl⟩;go_wp2_with fail
   refine(yY c a wr).mono ?_;rintro e w1 ⟨rfl,J⟩;have O:=eQ D;go_wp2_with fail
   exact⟨⟨k+1,u,U,by go_num,K.trans (J.mono K.size),j9 J D,(J.frozen O).trans hfr,.inr rfl⟩,by simp[intOf];omega⟩
theorem GR(fn:Fn)(first cap:Wa)(w:Wd):(Instr.makeFunc fn first cap).run prog w = .ok (.func fn first cap) w:=rfl
theorem JC(w:Wd)(c:Int)(o:Option Int):
  Wc 140 #[o0 c o] w (Rt w (.int .i64 c)):=by
 have O:=GR;have D:=fun(J:Wd) (hb:Bw w J) x R K=>AY w J c o hb x R K
 obtain⟨v,I⟩:=je (o0 c o);rw[<- I] at D ⊢;clear I;go_enter func140,ntmps140
 go_wp2_with fail
 refine(D (w.alloc (.cells #[.int .i64 0] 58)) ((ji _ _).alloc (ja _) _) (.int .i64 0) (by simp[go_sem]) (by simp[go_sem])).mono ?_;rintro e w' ⟨rfl,hb,U⟩;clear D;go_wp2
 go_ret;exact⟨rfl,hb⟩
theorem EE(f:Value)(w:Wd):
  Wc 178 #[.nilIface,f] w λe w'=>e = .returned (.tuple #[])/\w=w':=by
 go_enter_defers func178,ntmps178
 go_wp2_with fail
 go_loop [0,6] (λe i=>e = .nilIface/\i = .int .i64 0) (λ_ _=>0)
 case atStart=>exact⟨rfl,rfl⟩
 case round=>
  obtain⟨rfl,rfl⟩:=hrel;go_wp2_with fail
  refine leaves_cons (f:=218) (args:=#[]) (by simp) (by simp[go_sem]) ?_;refine(rL _).mono ?_;rintro e D w'' ⟨rfl,rfl,rfl⟩;exact⟨_,results_none rfl _ _ _,rfl,rfl⟩
theorem L0(w:Wd):
  Wc 140 #[.nilIface] w (Rt w (.int .i64 0)):=by
 have D:=GR;go_enter func140,ntmps140
 go_wp2_with (go_at_call 178;refine(EE _ _).mono ?_;rintro e w' ⟨rfl,rfl⟩)
 go_ret;exact⟨rfl,(ji _ _).alloc (ja _) _⟩
end
section
open Go.RowKit
attribute [local irreducible] wpQuiet wpAnyH
theorem tW{A:Option Addr}{i j m s k c:Nat}:∀ b,(sliced A i j m s).ownBlock=some b->(Value.slice A k c).ownBlock=some b:=by
 intro b h;unfold Go.sliced at h;cases A with
 | none=>split at h <;> simp[Value.ownBlock] at h
 | some a=>
  obtain⟨p,o,z⟩:=a;split at h
  ·exact h
  ·simp only[Value.ownBlock,Option.map_some,Addr.add] at h;split at h <;> exact h
theorem o6(va:Value)(n:Nat)(U:Wv)(w:Wd)(hs:Sn w 1 va n U)(h1:∀ u∈U,u.oneCell'=true)(hn:n<=1000000):
  Wc 161 #[va] w λe w'=>∃ v,e = .returned v/\Sn w' 1 v n U/\(∀ b,v.ownBlock=some b->w.heap.size<=b)/\Bw w w':=by
 obtain⟨A,cap,rfl,V,hl,Z⟩:=id hs;have HS:=jz hs;have HX:=jz Z;clear Z;cases A with
 | none=>
  have K:∀ w:Wd,(binOp .eql 60 (.slice none n cap) (.slice none 0 0)).run prog w = .ok (.bool true) w:=λ_=>rfl
  go_enter func161,ntmps161
  go_wp2_with fail
  go_ret;have R:n=0:=by
   rcases Nat.eq_zero_or_pos n with h|h
   ·exact h
   ·obtain⟨b,off,e,_⟩:=HX.out h;cases e
  subst R;exact⟨_,rfl,⟨none,0,rfl,ja _,hl,λh=>absurd h (by omega)⟩,(λb e=>by cases e),ji _ _⟩
 | some a=>
  have K:∀ w:Wd,(binOp .eql 60 (.slice (some a) n cap) (.slice none 0 0)).run prog w = .ok (.bool false) w:=λ_=>rfl
  have I:(w.alloc (.cells #[] 5)).ownsRow w.heap.size 5 1 (.slice (some ⟨w.heap.size,0,none⟩) 0 0) 0 []:=nC w #[] 5 1 0 w.heap.size w.heap.size (ja _) rfl (by unfold maxLen;omega) rfl;go_enter func161,ntmps161
  clear hs;go_wp2_with (at_builtin;refine app fQ (.tmp 5) (.tmp 6) rfl rfl rfl I rfl (HS.alloc _) h1 (by unfold maxLen;omega) (by omega) (by simp) ?_;intro v' w3 D J _)
  go_ret;have hb:Bw w w3:=((ji _ w).alloc (ja _) _).grown J (by simp) (λg hg=>by have:=(I.lt g hg).1;omega);have O:=D.lt;have:=Sn.own D;rw[Nat.zero_add,List.nil_append] at this;exact⟨_,rfl,this,λb e=>(O b e).1,hb⟩
theorem xJ(U:Value)(I:Wl)(w:Wd)(hs:Sn w 1 U I.length (u8s I))(hn:I.length<=1000000):
  Wc 110 #[U] w λe w'=>∃ r v,e = .returned (.pointer (some ⟨r,0,none⟩))/\RD w' r v I false/\(∀ b,v.ownBlock=some b->w.heap.size<=b)/\w.heap.size<=r/\Bw w w':=by
 have Z:=jz hs;clear hs;go_enter func110,ntmps110
 go_wp2_with fail
 refine(o6 U I.length (u8s I) w Z (cI I) hn).mono ?_;rintro e w1 ⟨v,rfl,D,hfr,J⟩;obtain⟨A,cap,rfl,V,hl,_⟩:=id D;have R:=jz D;have K:=J.size;have O:=jz hfr;clear D hfr;go_wp2_with fail
 go_ret;exact⟨_,_,rfl,⟨Blk.new _ _ _,R.alloc _⟩,O,K,J.alloc K _⟩
theorem tX(r:Nat)(v:Value)(D:Wl)(I:Bool)(n:Nat)(w:Wd)(h:RD w r v D I)(hl:D.length<=1000000):
    Wc 163 #[.pointer (some ⟨r,0,none⟩),.int .u64 n] w λe w'=>Off r w w' /\
      ((I = false /\ n <= D.length /\ ∃ x v', e = .returned (.tuple #[x, .bool true]) /\ Sn w' 1 x n (u8s (D.take n)) /\ RD w' r v' (D.drop n) false /\ ∀ b, v'.ownBlock = some b -> v.ownBlock = some b) \/
       ((I=true\/D.length<n)/\e = .returned (.tuple #[.slice none 0 0,.bool false])/\RD w' r (.slice none 0 0) [] true)):=by
  obtain⟨V,hs⟩:=h;obtain⟨A,cap,rfl,a0,a8,_⟩:=id hs;have HS:=jz hs;have U:=jz V;have h0:=V.cell 0;have h1:=V.cell 1;have f0:=V.frozen 0;simp only[jf,jg,jh] at h0 h1;have O:I=true\/I=false/\decide (D.length<n)=true\/I=false/\decide (D.length<n)=false:=by
    cases I <;> cases decide (D.length<n) <;> simp
  clear V hs;rcases O with rfl|⟨rfl,t1⟩|⟨rfl,t1⟩
  · go_enter func163,ntmps163
    go_wp2_with fail
    refine(sQ r _ true w U).mono ?_;rintro e w1 ⟨rfl,hR,R⟩;go_wp2_with fail
    go_ret2
    exact⟨R,.inr ⟨.inl trivial,rfl,hR⟩⟩
  · go_enter func163,ntmps163
    go_wp2_with fail
    refine(sQ r _ false w U).mono ?_;rintro e w1 ⟨rfl,hR,R⟩;go_wp2_with fail
    go_ret2
    exact⟨R,.inr ⟨.inr (by have:=of_decide_eq_true t1;omega),rfl,hR⟩⟩
  · have hn:n<=D.length:=by have:=of_decide_eq_false t1;omega
    have a6:(n:Int)<=cap:=by omega
    have a7:(n:Int)<=D.length:=by omega
    have a5:(0:Int)<=n:=by omega
    have a9:=underlying60;go_enter func163,ntmps163
    have a2:Hid (Sn w 1 (sliced A 0 n n 1) n (u8s (D.take n))):=jz (by
      have:=HS.sliced 0 n n (by omega) hn (ja _)
      rw[mG]
      simpa using this)
    have a3:Hid (Sn w 1 (sliced A n D.length cap 1) (D.drop n).length (u8s (D.drop n))):=jz (by
      have:=HS.sliced n D.length cap hn (ja _) a0
      rw[oW,List.length_drop]
      have e:(u8s D).take (D.length*1)=u8s D:=List.take_of_length_le (by rw[aK];omega)
      rw[e] at this
      simpa using this)
    have a4:=jz (U.set_ 0 (sliced A n D.length cap 1));have R:Off r w (w.setCell ⟨r,0,none⟩ (sliced A n D.length cap 1)):=(Off.refl r w).set 0 _;have HO:=jz R;clear R;by_cases hcn:cap=n
    all_goals
      go_wp2_with fail
      go_ret2
      have K:=a2.offB U rfl HO.out;have a1:=a3.offB U rfl HO.out;have e2:sliced A 0 n n 1 = .slice A n n:=by
        unfold Go.sliced;cases A with
        | none=>simp
        | some a=>obtain⟨b,o,s⟩:=a;simp[Addr.add]
      have Z:=a4.out;rw[e2] at K;refine⟨?_,.inl ⟨trivial,hn,_,sliced A n D.length cap 1,rfl,?_,?_⟩⟩
    · have J:sliced A n D.length cap 1 = .slice A (D.length-n) 0:=by simp[Go.sliced,hcn]
      rw[<- J];exact HO.out
    · have J:sliced A n D.length cap 1 = .slice A (D.length-n) 0:=by simp[Go.sliced,hcn]
      rw[J] at K;exact K
    · have J:sliced A n D.length cap 1 = .slice A (D.length-n) 0:=by simp[Go.sliced,hcn]
      rw[<- J];exact⟨⟨Z,a1⟩,tW⟩
    · have J:sliced A n D.length cap 1 = .slice (A.map (·.add n)) (D.length-n) (cap-n):=by simp[Go.sliced,hcn]
      rw[<- J];exact HO.out
    · have J:sliced A n D.length cap 1 = .slice (A.map (·.add n)) (D.length-n) (cap-n):=by simp[Go.sliced,hcn]
      rw[J] at K;exact K
    · have J:sliced A n D.length cap 1 = .slice (A.map (·.add n)) (D.length-n) (cap-n):=by simp[Go.sliced,hcn]
      rw[<- J];exact⟨⟨Z,a1⟩,tW⟩
theorem AZ(r:Nat)(v:Value)(K:Wl)(I:Bool)(n:Nat)(w:Wd)(h:RD w r v K I)(hl:K.length<=1000000)(hn:n<=1000000):
    Wc 169 #[.pointer (some ⟨r,0,none⟩),.int .i64 n] w λe w'=>Off r w w' /\
      ((I = false /\ n <= K.length /\ ∃ x v', e = .returned x /\ Sn w' 1 x n (u8s (K.take n)) /\ RD w' r v' (K.drop n) false /\ ∀ b, v'.ownBlock = some b -> v.ownBlock = some b) \/
       ((I=true\/K.length<n)/\e = .returned (.slice none 0 0)/\RD w' r (.slice none 0 0) [] true)):=by
  go_enter func169,ntmps169
  have HR:=jz h;have a4:(0:Int)<=n:=by omega
  have a5:(n:Int)<=1000000:=by omega
  clear h;go_wp2_with fail
  refine(tX r v K I n w HR hl).mono ?_;rintro e w1 ⟨ho,⟨rfl,U,x,v',rfl,Z,R,V⟩|⟨J,rfl,R⟩⟩
  · have HO:=jz ho;have D:=jz R;have a2:=jz Z;have HK:=jz U;have a1:=jz V;clear ho R Z U V;go_wp2_with fail
    refine(mH x n (u8s (K.take n)) w1 a2 (cI _) hn).mono ?_;rintro e w2 ⟨y,rfl,a3,O⟩;go_wp2_with fail
    go_ret;exact⟨HO.trans (Off.of_below O),.inl ⟨HK,y,rfl,a3,v',⟨D.out.1.keep O,D.out.2.below O⟩,a1⟩⟩
  · have HO:=jz ho;have D:=jz R;have a0:=jz J;clear ho R J;go_wp2_with fail
    go_ret;exact⟨HO,.inr ⟨a0,rfl,D⟩⟩
end
section
open Go.RowKit
theorem rM:∀ {xs ys:Wl},Bys xs->Bys ys->Lib.bytesOf xs=Lib.bytesOf ys->xs=ys
 | [],[],_,_,_=>rfl
 | [],_ :: _,_,_,h=>by simp[Lib.bytesOf] at h
 | _ :: _,[],_,_,h=>by simp[Lib.bytesOf] at h
 | a :: xs,b :: ys,hx,hy,h=>by
  simp only[Lib.bytesOf,List.map_cons,List.cons.injEq] at h;have ha:=hx a (by simp);have hb:=hy b (by simp);have h1:=congrArg UInt8.toNat h.1;simp only[UInt8.toNat_ofNat'] at h1;rw[rM (λc D=>hx c (by simp[D])) (λc D=>hy c (by simp[D])) h.2,show a=b by omega]
theorem rN(v1 v2:Value)(xs ys:Wl)(w:Wd)(h1:Sn w 1 v1 xs.length (u8s xs))(J:Sn w 1 v2 ys.length (u8s ys))(D:Bys xs)(hy:Bys ys):
  Wc 204 #[v1,v2] w λe w'=>e = .returned (.bool (decide (xs=ys)))/\w'=w:=by
 have key:∀(A:Option Addr) (cap:Nat) (zs:Wl),Sn w 1 (.slice A zs.length cap) zs.length (u8s zs)->Lib.BytesIn w A zs.length zs:=by
  intro A cap zs h;obtain⟨A',I,hv,_,_,D⟩:=h;injection hv with hA _ _
  subst hA;intro Z;obtain⟨b,off,rfl,V⟩:=D Z;refine⟨b,off,rfl,λj K=>V j _ ?_⟩;rw[oX zs j K,jn,List.getElem?_eq_getElem K];rfl
 obtain⟨O,c1,rfl,_,_,_⟩:=id h1;obtain⟨R,U,rfl,_,_,_⟩:=id J;refine(Tryz.bytes_Equal_all O R xs.length c1 ys.length U xs ys w rfl rfl (key _ _ _ h1) (key _ _ _ J)).mono ?_;rintro e w' ⟨rfl,rfl⟩;refine⟨?_,rfl⟩;congr 2;by_cases h:xs=ys
 ·subst h;simp
 ·have:Lib.bytesOf xs≠Lib.bytesOf ys:=λe=>h (rM D hy e)
  simp[h,this]
end
section
theorem xK(d:Wl)(t:Int)(hd:d.length=32)(Z:Wa)(J:Z.size=33):((u8s d).zipIdx.foldl (fun(cs:Wa) (x:Value×Nat)=>cs.setIfInBounds x.2 x.1) Z).setIfInBounds 32 (.int .i64 t)=(cS d t).toArray:=by
 have D:(u8s d).length=32:=by simp[u8s,hd]
 have I:((u8s d).zipIdx.foldl (fun(cs:Wa) (x:Value×Nat)=>cs.setIfInBounds x.2 x.1) Z).size=33:=by
  have key:∀(l:List (Value×Nat)) (cs:Wa),(l.foldl (fun(cs:Wa) (x:Value×Nat)=>cs.setIfInBounds x.2 x.1) cs).size=cs.size:=by
   intro l;induction l with
   | nil=>intro cs;rfl
   | cons x l ih=>intro cs;rw[List.foldl_cons,ih,Array.size_setIfInBounds]
  rw[key];exact J
 apply Array.ext_getElem?;intro i;rw[Array.getElem?_setIfInBounds,mJ,I,J,D,show(cS d t).toArray[i]? = (u8s d++[.int .i64 t])[i]? by simp[cS]];by_cases h1:32=i
 ·subst h1;rw[jP rfl,jP (by omega),jx (by omega),D];rfl
 ·rw[jQ h1];by_cases h2:i<32
  ·rw[jP (by omega),jy (by omega),Nat.sub_zero]
  ·rw[jQ (by omega),jx (by omega),D];rw[Array.getElem?_eq_none (by rw[J];omega),List.getElem?_eq_none (by simp;omega)]
theorem JD(d:Wl)(t:Int)(hd:DigOk d)(Z:Wa)(I:Z.size=33):(cS d t).zipIdx.foldl (fun(cs:Wa) (x:Value×Nat)=>cs.setIfInBounds x.2 x.1) Z=(cS d t).toArray:=by
 have D:=jH hd t;apply Array.ext_getElem?;intro i;rw[mJ,I,D,show(cS d t).toArray[i]? = (cS d t)[i]? by simp];by_cases h:i<33
 ·rw[jP (by omega),Nat.sub_zero]
 ·rw[jQ (by omega),Array.getElem?_eq_none (by omega),List.getElem?_eq_none (by omega)]
end
end Go.Proofs.YtjjlaipkkdncfaaGreatDoor
