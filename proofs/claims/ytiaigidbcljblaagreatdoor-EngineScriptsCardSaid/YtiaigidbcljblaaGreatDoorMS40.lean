import Derived.Test.YtiaigidbcljblaaGreatDoorMS38
import Derived.Test.YtiaigidbcljblaaGreatDoorMS39
import Derived.Test.YtiaigidbcljblaaGreatDoorMS37
set_option linter.unusedVariables false
set_option linter.unusedSimpArgs false
set_option maxRecDepth 100000
set_option maxHeartbeats 40000000
namespace Go.Proofs.YtiaigidbcljblaaGreatDoor
open Go.Proofs.Tryz
open Go.RowKit
attribute [local irreducible] wpQuiet wpAnyH
def vF(c:ConfD):eK:=C8 c.key c.skew
theorem XO{c:ConfD}(l:List OpR)(A:Option Addr)(cap:Nat)(w:Wd)(K:C7 c)(I:TabK w)(hs:Sn w 4 (.slice A l.length cap) l.length (l.flatMap opC))(D:∀ x∈l,OpI w x)
  (hd:∀ x∈l,x.o.data.length<=9223372036854775807/\x.o.cuts.length<=9223372036854775807) (O:l.length<=40) (j:c.sec<=30):
  Wc 11 #[.agg (aY c).toArray,.slice A l.length cap] w (JS w (dA (vF c) c (aR l))):=
 uV c _ w λU hb=>uU A cap l U (BB c.key c.skew K.1) (λs b=>yJ _ _ _ _) (λW J=>I.below (aA hb J)) (hs.below hb) (λx R=>(D x R).below hb) hd (λ_ _ _=>trivial) O j
theorem rowsV{c:ConfD}(l:List OpR)(A:Option Addr)(cap:Nat)(w:Wd)(K:C7 c)(I:TabK w)(hs:Sn w 4 (.slice A l.length cap) l.length (l.flatMap opC))(D:∀ x∈l,OpI w x)
  (hd:∀ x∈l,x.o.data.length<=9223372036854775807/\x.o.cuts.length<=9223372036854775807) (O:l.length<=40) (j:c.sec<=30):
  ∀ x∈(dA (vF c) c (aR l)).2,RowOk x:=
 W8 (JZ c.key c.skew) c _ l.length (by omega) (JW ((F9 A cap l w (BB c.key c.skew K.1) (λs b=>yJ _ _ _ _) (λW J=>I.below J) hs D hd (λ_ _ _=>trivial) O j).mono λe w' h=>h.2))
theorem TO{V:eK}{c:ConfD}{l:List OpD}{x:Int×Option Int}(h:(dA V c l).1=some x):(dA V c l).2=[]:=by
 unfold dA at h ⊢;split at h
 ·rename_i h1;rw[jP h1]
 ·rename_i h1;rw[jQ h1];cases hb:oJ l with
  | some i=>rfl
  | none=>
   rw[hb] at h;cases h
theorem BC{V:eK}{c:ConfD}{l:List OpD}(h:(dA V c l).1=none):fV c=true/\(∀ o∈l,aD o=true)/\(dA V c l).2=fI V c.skew ⟨eV c.sec.toNat,0,none⟩ l:=by
 unfold dA at h ⊢;split at h
 ·cases h
 ·rename_i h1;rw[jQ h1];cases hb:oJ l with
  | some i=>
   rw[hb] at h;cases h
  | none=>
   refine⟨by simpa using h1,yK hb,rfl⟩
theorem GL{V:eK}{c:ConfD}{l:List OpD}(D:fV c=true)(h:∀ o∈l,aD o=true):dA V c l=(none,fI V c.skew ⟨eV c.sec.toNat,0,none⟩ l):=by
 unfold dA;rw[jQ (by rw[D];simp),A9 (λj x=>h _ (List.getElem_mem x))]
theorem GM{V:eK}{c:ConfD}{l:List OpD}(h:(dA V c l).1=none):(dA V c l).2.length=l.length:=by
 rw[(BC h).2.2,nC]
theorem W9(l:List OpR):C5 l=0\/C5 l=1:=by
 unfold C5;split
 ·split
  ·exact .inl rfl
  ·exact .inr rfl
 ·exact .inl rfl
theorem yL(o:OpD)(hd:o.data.length<=1000)(R:o.cuts.length<=30):(e9 o).length<=5000:=by
 unfold e9;split
 ·rename_i D;have j:=mW D;have h1:=jV o.kind;have I:=kY o.n (by have:=j.n.1;omega) (by have:=j.n.1;omega);have x:=o7 o.cuts j.cut o.cuts.length (ja _);rw[List.take_length] at x;have J:=oB o.data;unfold s9;simp only[jj];have K:(if eD o.kind then 32 :: Lib.itoa o.n else []).length<=21:=by split <;> simp <;> omega
  have O:(if o.data.isEmpty then [] else 32 :: iB o.data).length<=2001:=by split <;> simp <;> omega
  omega
 ·simp
theorem nE:∀ L:List OpD,(∀ o∈L,o.data.length<=1000/\o.cuts.length<=30)->(dH L).length<=5001*L.length
 | [],_=>ja _
 | o :: L,h=>by
  have h1:=yL o (h o (by simp)).1 (h o (by simp)).2;have x:=nE L (λp j=>h p (by simp[j]));rw[xN];simp only[jj,List.length_cons];omega
theorem GN{l:List OpR}(h:∀ x∈l,x.o.data.length<=1000/\x.o.cuts.length<=30)(k:Nat):∀ o∈aR (l.take k),o.data.length<=1000/\o.cuts.length<=30:=λo j=>by
 obtain⟨x,D,rfl⟩:=List.mem_map.1 j;exact h x (j7 D)
theorem GO{V:eK}{c:ConfD}{l:List OpD}(x:fV c=true)(h:l.all aD=true):oM V c (dH l)=(none,fH (dA V c l).2)/\(dA V c l).1=none/\lU l=(dH l,true):=by
 have j:∀ o∈l,aD o=true:=List.all_eq_true.1 h;have D:=tD l j;refine⟨?_,by rw[GL x j],by unfold lU;rw[h];rfl⟩;unfold oM;rw[jQ (by rw[x];simp),D];simp only[if_true];rw[GL x j]
theorem J1{V:eK}{c:ConfD}{l:List OpD}(D:fV c=true)(h:l.all aD=false):∃ x,(dA V c l).1=some x/\lU l=([],false):=by
 obtain⟨o,j,hb⟩:=List.all_eq_false.1 h;cases hr:(dA V c l).1 with
 | some x=>exact⟨x,rfl,by unfold lU;rw[h];rfl⟩
 | none=>exact absurd ((BC hr).2.1 o j) hb
theorem yM(c:ConfD)(l:List OpR)(A:Option Addr)(cap:Nat)(w:Wd)(hc:C7 c)(ht:Tab w)(e8:ML w)(hK:TabK w)
  (aw:∀ w1,Bw w w1->Wc 6 #[] w1 (Rt w1 (.bool true)))
  (hs:Sn w 4 (.slice A l.length cap) l.length (l.flatMap opC)) (d0:∀ x∈l,OpI w x)
  (hd:∀ x∈l,x.o.data.length<=9223372036854775807/\x.o.cuts.length<=9223372036854775807) (hm:l.length<=9223372036854775807):
  Wc 5 #[.agg (aY c).toArray,.slice A l.length cap] w (Rt w (.bool true)):=by
 obtain⟨w1,a0⟩:=je (w.alloc (.cells (aY c).toArray 37));obtain⟨gc,a9⟩:=je w.heap.size;have b1:Hid (Bw w w1):=jz (by rw[a0];exact aH _ _);have e0:Hid (Blk w1 gc 37 (aY c).toArray):=jz (by rw[a0,a9];exact Blk.new _ _ _);have j:Hid (∀ W,Bw w1 W->W.rangeAt gc 0 (aY c)):=jz (λW hW=>by have:=(e0.keep hW).range;rwa [jt] at this);have a1:Hid ((prog.info? 37).map (·.size)=some (aY c).length):=jz (by rw[jY];kernel_rfl);have b0:=jz aw;have c4:=jz (fun(W:Wd) (hW:Bw w W)=>(OV l A cap W (hs.below hW) hd hm).mono (λe w' h=>(⟨h.1,h.2.symm⟩:e = .returned (.int .i64 (C5 l))/\W=w')));have a4:=jz (fun(W:Wd)=>GG c W);have a7:=jz (fun(W:Wd)=>GE c W);obtain⟨n,O⟩:=je l.length;have HN:=jz O;rcases W9 l with hf|hf
 ·rw[hf,<- O] at c4;rw[<- O];obtain⟨K,a3⟩:=je (aY c);rw[<- a3] at a0 ⊢;clear a3 j a1 a4 a7 hs d0 hd hm hK ht e8 O e0 hf hc aw HN
  as_aux_lemma=>
  go_enter func5,ntmps5
  go_upto_region 1 with fail
  rw[<- a0];simp only[<- a9];clear a0 a9;go_wp2_with (first
   | (go_at_call 6;refine(b0 w2 U).mono ?_;rintro e w3 ⟨rfl,Z⟩;have a6:=jz (aA U Z);clear Z)
   | (go_at_call 6;refine(b0 w1 b1).mono ?_;rintro e w2 ⟨rfl,D⟩;have U:=jz (aA b1 D);clear D)
   | (go_at_call 9;refine(c4 w2 U).mono ?_;rintro e _ ⟨rfl,rfl⟩))
  go_ret;exact⟨rfl,a6⟩
 have I:=TI (l:=l) (by rw[hf];decide);rw[hf,<- O] at c4;rcases Int.lt_or_le 30 c.sec with c7|c7
 ·rw[decide_eq_false (show ¬c.sec<=30 by omega)] at a4;rw[<- O];obtain⟨K,a3⟩:=je (aY c);rw[<- a3] at a0 j a1 a4 ⊢;clear a3 a7 hs d0 hd hm hK ht e8 O e0 hf hc aw HN I c7
  as_aux_lemma=>
  go_enter func5,ntmps5
  go_upto_region 1 with fail
  rw[<- a0];simp only[<- a9];clear a0 a9;go_wp2_with (first
   | (go_at_call 6;refine(b0 w3 a6).mono ?_;rintro e w4 ⟨rfl,a5⟩;have b7:=jz (aA a6 a5);clear a5)
   | (go_at_call 6;refine(b0 w1 b1).mono ?_;rintro e w2 ⟨rfl,D⟩;have U:=jz (aA b1 D);have J:=jz D;clear D)
   | (go_at_call 9;refine(c4 w2 U).mono ?_;rintro e _ ⟨rfl,rfl⟩)
   | (refine ld 37 (.tmp 2) rfl rfl (by rfl) (j _ J) underlying37 rfl a1 ?_)
   | (go_at_call 10;refine(a4 w2).mono ?_;rintro e w3 ⟨rfl,Z⟩;have a6:=jz (aA U Z);clear Z))
  go_ret;exact⟨rfl,b7⟩
 rw[decide_eq_true c7] at a4;cases hrc:fV c with
 | false=>
  rw[hrc] at a7;rw[<- O];obtain⟨K,a3⟩:=je (aY c);rw[<- a3] at a0 j a1 a4 a7 ⊢;clear a3 hs d0 hd hm hK ht e8 O e0 hf hc aw HN I c7 hrc
  as_aux_lemma=>
  go_enter func5,ntmps5
  go_upto_region 1 with fail
  rw[<- a0];simp only[<- a9];clear a0 a9;go_wp2_with (first
   | (go_at_call 6;refine(b0 w4 b7).mono ?_;rintro e w5 ⟨rfl,c3⟩;have d2:=jz (aA b7 c3);clear c3)
   | (go_at_call 6;refine(b0 w1 b1).mono ?_;rintro e w2 ⟨rfl,D⟩;have U:=jz (aA b1 D);have J:=jz D;clear D)
   | (go_at_call 9;refine(c4 w2 U).mono ?_;rintro e _ ⟨rfl,rfl⟩)
   | (refine ld 37 (.tmp 2) rfl rfl (by rfl) (j _ a2) underlying37 rfl a1 ?_)
   | (refine ld 37 (.tmp 2) rfl rfl (by rfl) (j _ J) underlying37 rfl a1 ?_)
   | (go_at_call 10;refine(a4 w2).mono ?_;rintro e w3 ⟨rfl,Z⟩;have a6:=jz (aA U Z);have a2:=jz (aA J Z);clear Z)
   | (go_at_call 13;refine(a7 w3).mono ?_;rintro e w4 ⟨rfl,a5⟩;have b7:=jz (aA a6 a5);clear a5))
  go_ret;exact⟨rfl,d2⟩
 | true=>
  rw[hrc] at a7;have c5:=jz (rowsV l A cap w hc hK hs d0 hd I.1 c7);have d7:=jz (fun(W:Wd) (hW:Bw w W)=>XO l A cap W hc (hK.below hW) (hs.below hW) (λx hx=>(d0 x hx).below hW) hd I.1 c7);have c9:=jz (fun(W:Wd) (hW:Bw w W)=>N3 l A cap W (ht.below hW) (hs.below hW) (λx hx=>(d0 x hx).below hW) (λx hx=>⟨by have:=(I.2 x hx).1;omega,by have:=(I.2 x hx).2;omega⟩) (by have:=I.1;omega) (λk=>by
   have h:=nE (aR (l.take k)) (GN I.2 k)
   have h2:(aR (l.take k)).length<=l.length:=by simp[aR];omega
   have:=I.1
   omega) (λx hx=>by have:=yL x.o (I.2 x hx).1 (I.2 x hx).2;omega))
  have HT:=jz ht;cases hal:(aR l).all aD with
  | false=>
   obtain⟨x,hx,f3⟩:=J1 (V:=vF c) hrc hal;rw[f3,show SBy (([]:Bs),false).1=(⟨#[]⟩:ByteArray) from rfl,<- O] at c9;obtain⟨tv,uv,g1⟩:=bW x;have h9:=dC tv uv;have a8:Hid (∀ W,Bw w W->Wc 11 #[.agg (aY c).toArray,.slice A n cap] W (Rt W (.tuple #[.slice none 0 0,.iface tv uv]))):=jz (λW hW=>by
    have h:=d7.out W hW
    unfold JS at h
    rw[hx] at h
    rw[<- g1,O]
    exact h)
   rw[<- O];obtain⟨K,a3⟩:=je (aY c);rw[<- a3] at a0 j a1 a4 a7 a8 ⊢;clear a3 hs d0 hd hm hK ht e8 O e0 hf hc aw HN I c7 hrc c5 d7 hal hx f3 g1
   as_aux_lemma=>
   go_enter func5,ntmps5
   go_upto_region 1 with fail
   rw[<- a0];simp only[<- a9];clear a0 a9;go_upto_region 3 with (first
    | (go_at_call 6;refine(b0 w1 b1).mono ?_;rintro e w2 ⟨rfl,D⟩;have U:=jz (aA b1 D);have J:=jz D;clear D)
    | (go_at_call 9;refine(c4 w2 U).mono ?_;rintro e _ ⟨rfl,rfl⟩)
    | (refine ld 37 (.tmp 2) rfl rfl (by rfl) (j _ a2) underlying37 rfl a1 ?_)
    | (refine ld 37 (.tmp 2) rfl rfl (by rfl) (j _ J) underlying37 rfl a1 ?_)
    | (go_at_call 10;refine(a4 w2).mono ?_;rintro e w3 ⟨rfl,Z⟩;have a6:=jz (aA U Z);have a2:=jz (aA J Z);clear Z)
    | (go_at_call 13;refine(a7 w3).mono ?_;rintro e w4 ⟨rfl,a5⟩;have b7:=jz (aA a6 a5);have f0:=jz (aA a2 a5);clear a5))
   clear b0 c4 a4 a7 U J a6 a2;go_wp2_with (first
    | (go_at_call 14;refine(c9 w4 b7).mono ?_;rintro e w5 ⟨rfl,c3⟩;have d2:=jz (aA b7 c3);have d5:=jz (aA f0 c3);clear c3)
    | (refine ld 37 (.tmp 2) rfl rfl (by rfl) (j _ d5) underlying37 rfl a1 ?_)
    | (go_at_call 11;refine(a8 w5 d2).mono ?_;rintro e w6 ⟨rfl,e1⟩;have f1:=jz (aA d2 e1);clear e1))
   first|go_ret|skip
   exact⟨rfl,f1⟩
  | true=>
   obtain⟨h0,f6,f3⟩:=GO (V:=vF c) hrc hal;have g3:(dH (aR l)).length<=10000000:=by
    have h:=nE (aR l) (by have:=GN I.2 l.length;rwa [List.take_length] at this);have h2:(aR l).length=l.length:=cG l;have:=I.1;omega
   have d1:=tD (aR l) (List.all_eq_true.1 hal);have f2:Hid (∀ W,Bw w W->Wc 15 #[.agg (aY c).toArray,.string (SBy (dH (aR l)))] W (Rt W (.tuple #[.string (SBy (fH (dA (vF c) c (aR l)).2)),.nilIface]))):=jz (λW hW=>by
    have h:=yH (V:=vF c) c (dH (aR l)) W (e8.below hW) (ht.below hW) g3 (λw2 R A2 c2 D ho h8 g2=>by
     rw[d1] at ho
     have ho:aR R=aR l:=ho
     have h6:R.length=l.length:=by rw[<- cG R,ho,cG]
     have f9:∀ x∈R,x.o.data.length<=1000/\x.o.cuts.length<=30:=λx hx=>by
      have h1:x.o∈aR l:=by rw[<- ho];exact List.mem_map_of_mem hx
      obtain⟨y,hy,e⟩:=List.mem_map.1 h1
      rw[<- e]
      exact I.2 y hy
     exact XO R A2 c2 w2 hc ((hK.below hW).below D) h8 g2 (λx hx=>⟨by have:=(f9 x hx).1;omega,by have:=(f9 x hx).2;omega⟩) (by rw[h6];exact I.1) c7)
     (by rw[d1];exact c5) (by rw[d1];show(dA (vF c) c (aR l)).2.length<=_;rw[GM f6,cG];have:=I.1;omega) (by rw[d1];intro x hx;exact TO hx)
    rw[h0] at h
    exact h)
   have f5:(dA (vF c) c (aR l)).2.length=n:=by rw[GM f6,cG,O]
   rw[f3,<- O] at c9;have c9:Hid (∀ W,Bw w W->Wc 14 #[.slice A n cap] W (Rt W (.tuple #[.string (SBy (dH (aR l))),.bool true]))):=c9;have a8:Hid (∀ W,Bw w W->Wc 11 #[.agg (aY c).toArray,.slice A n cap] W λe w'=>∃ v,e = .returned (.tuple #[v,.nilIface])/\w'.ownsRow W.heap.size 31 36 v n ((dA (vF c) c (aR l)).2.flatMap d8)/\Bw W w'):=jz (λW hW=>by
    have h:=d7.out W hW
    unfold JS at h
    rw[f6,f5,<- O] at h
    exact h)
   have h4:Hid (n<=40):=jz (by have:=I.1;omega);rw[<- O];obtain⟨R,hR⟩:=je ((dA (vF c) c (aR l)).2);rw[<- hR] at a8 f2 c5 f5;have f7:=jz f5;obtain⟨P,hP⟩:=je (SBy (dH (aR l)));rw[<- hP] at f2 c9;obtain⟨S,hS⟩:=je (SBy (fH R));rw[<- hS] at f2;have HS:=jz hS;have k0:(S.toList == S.toList)=true:=beq_self_eq_true _;obtain⟨K,a3⟩:=je (aY c);rw[<- a3] at a0 j a1 a4 a7 a8 f2 ⊢;clear a3 hs d0 hd hm hK ht e8 O e0 hf hc aw HN I c7 hrc d7 hal h0 f6 f3 g3 d1 hR hP hS f5
   as_aux_lemma=>
   go_enter func5,ntmps5
   go_upto_region 1 with fail
   rw[<- a0];simp only[<- a9];clear a0 a9;go_upto_region 3 with (first
    | (go_at_call 6;refine(b0 w1 b1).mono ?_;rintro e w2 ⟨rfl,D⟩;have U:=jz (aA b1 D);have J:=jz D;clear D)
    | (go_at_call 9;refine(c4 w2 U).mono ?_;rintro e _ ⟨rfl,rfl⟩)
    | (refine ld 37 (.tmp 2) rfl rfl (by rfl) (j _ a2) underlying37 rfl a1 ?_)
    | (refine ld 37 (.tmp 2) rfl rfl (by rfl) (j _ J) underlying37 rfl a1 ?_)
    | (go_at_call 10;refine(a4 w2).mono ?_;rintro e w3 ⟨rfl,Z⟩;have a6:=jz (aA U Z);have a2:=jz (aA J Z);clear Z)
    | (go_at_call 13;refine(a7 w3).mono ?_;rintro e w4 ⟨rfl,a5⟩;have b7:=jz (aA a6 a5);have f0:=jz (aA a2 a5);clear a5))
   clear b0 c4 a4 a7 U J a6 a2;go_upto_region 5 with (first
    | (go_at_call 14;refine(c9 w4 b7).mono ?_;rintro e w5 ⟨rfl,c3⟩;have d2:=jz (aA b7 c3);have d5:=jz (aA f0 c3);clear c3)
    | (refine ld 37 (.tmp 2) rfl rfl (by rfl) (j _ d5) underlying37 rfl a1 ?_)
    | (go_at_call 11;refine(a8 w5 d2).mono ?_;rintro e w6 ⟨v6,rfl,g8,e1⟩))
   obtain⟨A6,c6,rfl,h3,_⟩:=mZ g8;have f1:=jz (aA d2 e1);have f8:=jz (aA d5 e1);have h5:Hid (∀ W,Bw w6 W->Wc 7 #[.slice A6 n c6] W (Rt W (.string S))):=jz (λW hW=>by
    have h:=AX R A6 c6 W (HT.below (aA f1 hW)) (by rw[f7.out];exact h3.below hW) c5 (by rw[f7.out];have:=h4.out;omega)
    rw[f7.out,<- HS.out] at h
    exact h)
   clear g8 h3 e1 c9 a8;go_wp2_with (first
    | (refine ld 37 (.tmp 2) rfl rfl (by rfl) (j _ f8) underlying37 rfl a1 ?_)
    | (go_at_call 15;refine(f2 w6 f1).mono ?_;rintro e w7 ⟨rfl,g0⟩)
    | (go_at_call 7;refine(h5 w7 g0).mono ?_;rintro e w8 ⟨rfl,h7⟩))
   first|go_ret|skip
   exact⟨rfl,aA f1 (aA g0 h7)⟩
end Go.Proofs.YtiaigidbcljblaaGreatDoor
