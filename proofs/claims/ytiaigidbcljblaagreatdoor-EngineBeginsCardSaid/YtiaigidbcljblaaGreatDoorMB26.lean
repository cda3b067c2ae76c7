import Derived.Test.YtiaigidbcljblaaGreatDoorMB24
import Derived.Test.YtiaigidbcljblaaGreatDoorMB23
import Derived.Deep.CutBlock
set_option linter.unusedSimpArgs false
set_option maxRecDepth 100000
set_option maxHeartbeats 40000000
namespace Go.Proofs.YtiaigidbcljblaaGreatDoor
open Go.Proofs.Tryz
section
open Go.RowKit
def ML(w:Wd):Prop:=∃ m:Int,w.cell? ⟨2,0,none⟩=some (.int .i64 m)
theorem ML.below{w w':Wd}(h:ML w)(hb:Bw w w'):ML w':=by
 obtain⟨m,j⟩:=h;exact⟨m,j9 hb j⟩
theorem GT(s:Bs)(c:UInt8)(j:Nat):Lib.occAt s [c] j=(s[j]? == some c):=by
 unfold Lib.occAt;rw[<- List.head?_drop];cases s.drop j with
 | nil=>rfl
 | cons x t=>
  show(c == x && true)=(some x == some c);rw[Bool.and_true,Bool.eq_iff_iff,beq_iff_eq,beq_iff_eq];exact⟨λe=>by rw[e],λe=>(Option.some.inj e).symm⟩
theorem D2(c:UInt8)(s:Bs)(h:c ∉ s):Lib.cut s [c]=(s,[],false):=by
 have hi:Lib.index s [c] = -1:=Lib.index_none λj _=>by
  rw[GT,beq_eq_false_iff_ne];intro e;exact h (List.mem_of_getElem? e)
 unfold Lib.cut;rw[hi];rfl
theorem JZ(c:UInt8)(w r:Bs)(h:c ∉ w):Lib.cut (w++c :: r) [c]=(w,r,true):=by
 have hi:Lib.index (w++c :: r) [c]=(w.length:Nat):=Lib.index_first (by simp) (by rw[GT];simp) λj x=>by
  rw[GT,beq_eq_false_iff_ne,jy x];intro e;exact h (List.mem_of_getElem? e)
 unfold Lib.cut;rw[hi,jP (by omega)];simp
theorem rT(c:UInt8):∀ s:Bs,c∈s->∃ w r,s=w++c :: r/\c ∉ w
 | [],h=>by cases h
 | x :: s,h=>by
  by_cases hx:x=c
  ·exact⟨[],s,by rw[hx];rfl,by simp⟩
  ·have D:c∈s:=by simpa [Ne.symm hx] using h
   obtain⟨w,r,h1,j⟩:=rT c s D;exact⟨x :: w,r,by rw[h1];rfl,by simp[Ne.symm hx,j]⟩
theorem qE(c:UInt8)(s:Bs):(c ∉ s/\split c s=[s]/\Lib.cut s [c]=(s,[],false))\/∃ w r,s=w++c :: r/\split c s=w :: split c r/\Lib.cut s [c]=(w,r,true):=by
 by_cases h:c∈s
 ·obtain⟨w,r,rfl,j⟩:=rT c s h;exact .inr ⟨w,r,rfl,rR c w r j,JZ c w r j⟩
 ·exact .inl ⟨h,pE c s h,D2 c s h⟩
theorem qF(c:UInt8)(s:Bs)(w:Wd)(x:ML w)(hs:s.length<=100000000):
  Wc 93 #[.string (SBy s),.string (SBy [c])] w λe w'=>e = .returned (.tuple #[.string (SBy (Lib.cut s [c]).1),.string (SBy (Lib.cut s [c]).2.1),.bool (Lib.cut s [c]).2.2])/\∃ n,w'=w.drewN n:=by
 obtain⟨m,j⟩:=x;have:=Tryz.strings_Cut (SBy s) (SBy [c]) m w (by rw[dY];omega) j;rw[p9,p9] at this;exact this
def tA(j:Nat):Bs->Option Value:=λw=>if dX w≠0/\dX w<=j then some (.int .i64 (dX w)) else none
theorem mL(w:Bs):0<=dX w/\dX w<=6:=by
 unfold dX
 repeat (split;· omega)
 omega
theorem MG(j:Nat)(J:j<6):P7 (tA j) (eI ((j:Int)+1)) (.int .i64 ((j:Int)+1))=tA (j+1):=by
 funext x
 unfold P7 tA;have D:dX (eI ((j:Int)+1))=(j:Int)+1:=DX (by omega);by_cases hx:x=eI ((j:Int)+1)
 ·rw[jP hx,hx,D,jP (by omega)]
 ·rw[jQ hx];by_cases h0:dX x=0
  ·rw[jQ (by omega),jQ (by omega)]
  ·have I:dX x≠(j:Int)+1:=λe=>hx (by rw[<- e,DY h0])
   by_cases h1:dX x<=j
   ·rw[jP ⟨h0,h1⟩,jP ⟨h0,by omega⟩]
   ·rw[jQ (λh=>h1 h.2),jQ (by omega)]
theorem UH{B:Nat}{w j w2:Wd}{b:Nat}(h:Below B w j)(ht:j.mapTurned w2 b)(hb:B<=b)(hs:B<=j.heap.size):Below B w w2:=
 h.grown ht.grown hs (λk hk=>by injection hk with hk;omega)
theorem MH(w:Wd):
  Wc 61 #[] w λe w'=>∃ b,e = .returned (.map (some b))/\SM w' b 6 (tA 6)/\Bw w w':=by
 go_enter func61,ntmps61
 have Z:=@run_makeMap prog;go_wp2_with fail
 clear Z;go_loopw [2] (λi wr=>∃ k:Nat,k<=6/\i = .int .i64 ((k:Int)+1)/\Hid (SM wr w.heap.size k (tA k))/\Hid (Bw w wr)) (λi _=>7-(intOf i).toNat)
 case atStart=>exact⟨0,by omega,rfl,jz ((SM.made w).congr λx _=>by unfold tA;rw[jQ];have:=mL x;omega),jz (aT _ _)⟩
 case round=>
  obtain⟨k,hk,rfl,HM,O⟩:=hrel;have I:=O.size;rcases jo k 6 with D|a0
  ·have t1:decide ((k:Int)+1<=6)=true:=by simp;omega
   have HS:=jz (MG k D);have K:SOk (eI ((k:Int)+1)):=by
    unfold SOk eI maxLen
    repeat (split;· simp)
    simp
   have HW:=jz K;obtain⟨W,V⟩:=je (eI ((k:Int)+1));rw[<- V] at HS HW;have HWe:=jz V;clear V K;go_wp2_with (first
    | (go_at_call 59;refine(P9 ((k:Int)+1) wr).mono ?_;rw[<- HWe.out];rintro e w' ⟨rfl,rfl⟩)
    | (refine ZG underlying131 _ _ _ rfl rfl (by rfl) HM HW (by rfl) (by rfl) (by unfold maxLen;omega) ?_;intro wE j J;have R:=jz j;have U:=jz J;clear j J))
   exact⟨⟨k+1,D,by go_num,jz (by rw[<- HS.out];exact R),jz (UH O U (ja _) I)⟩,by simp[intOf];omega⟩
  ·obtain rfl:k=6:=by omega
   go_wp2_with fail
   go_ret;exact⟨_,rfl,HM,O⟩
theorem wI:∀(k:Nat) (s d:Bs),s.length<=k->k5 s=some d->s.length=2*d.length:=by
 intro k s d _ h;have:=yU _ s d (ja _) h;rw[<- this,DV]
theorem D3(c:UInt8):Lib.indexByte digitsS.data.toList c=if gL c<=15 then (gL c:Int) else -1:=by
 have key:∀ n,n<256->Lib.indexByte digitsS.data.toList (UInt8.ofNat n)=if gL (UInt8.ofNat n)<=15 then (gL (UInt8.ofNat n):Int) else -1:=by decide +kernel
 have:=key c.toNat (UInt8.toNat_lt c);simpa using this
theorem zG(z:Nat)(w:Wd):
  Wc 143 #[.string ⟨#[48,49,50,51,52,53,54,55,56,57,97,98,99,100,101,102]⟩,.int .u8 (z:Int)] w λe w'=>e = .returned (.int .i64 (if gL (UInt8.ofNat z)<=15 then (gL (UInt8.ofNat z):Int) else -1))/\w'=w:=by
 have h:=Tryz.strings_IndexByte digitsS (z:Int) w;rw[show((z:Int).toNat.toUInt8)=UInt8.ofNat z from rfl,D3] at h;exact h
theorem QN{s:Bs}{j:Nat}(h:2*j+1<s.length):s.drop (2*j)=s[2*j] :: s[2*j+1] :: s.drop (2*(j+1)):=by
 rw[List.drop_eq_getElem_cons (by omega),List.drop_eq_getElem_cons (by omega)];rfl
theorem QO(a b:Nat)(ha:a<16)(hb:b<16):bits .or .i64 (16*(a:Int)) (b:Int)=((16*a+b:Nat):Int):=by
 have key:∀ a:Nat,a<16->∀ b:Nat,b<16->bits .or .i64 (16*(a:Int)) (b:Int)=((16*a+b:Nat):Int):=by decide +kernel
 exact key a ha b hb
def dB(s:Bs):Bs×Bool:=if s.length=0\/s.length>262144 then ([],false) else match k5 s with
 | some d=>(d,true)
 | none=>([],false)
theorem QP:∀(k:Nat) (s:Bs),s.length<=k->s.length % 2=1->k5 s=none:=by
 intro k s _ j;cases h:k5 s with
 | none=>rfl
 | some d=>have:=wI _ s d (ja _) h;omega
theorem xV(s:Bs)(w:Wd)(hm:s.length<=100000000):
  Wc 94 #[.string (SBy s)] w λe w'=>∃ v,e = .returned (.tuple #[v,.bool (dB s).2])/\OwnB w' w.heap.size v (dB s).1/\Bw w w':=by
 have a4:=GJ s;obtain⟨S,hS⟩:=je (SBy s);have f3:S.size=s.length:=by rw[hS,dY]
 rw[<- hS] at a4 ⊢;have a8:=jz a4;clear a4 hS;have U:OwnB w w.heap.size (.slice none 0 0) []:=World.ownsRow_nil _ _ _ _;rcases jb ((s.length:Int) == 0) with t1|t1
 ·have I:Hid (dB s=([],false)):=jz (by unfold dB;rw[jP];left;have:=beq_iff_eq.1 t1;omega);go_enter func94,ntmps94
  go_wp2_with fail
  go_ret2
  exact⟨_,by rw[I.out];rfl,by rw[I.out];exact U,ji _ _⟩
 have f0:s.length≠0:=by have:=beq_eq_false_iff_ne.1 t1;omega
 obtain⟨q,hq⟩:∃ q:Nat,q=s.length % 2:=⟨_,rfl⟩;have y1:(s.length:Int).tmod 2=(q:Int):=by rw[Int.tmod_eq_emod_of_nonneg (by omega)];omega
 have y2:(s.length:Int) % 2=(q:Int):=by omega
 have y3:IntKind.i64.wrap (q:Int)=q:=IntWalk.i64_in _ (by omega);rcases jb ((q:Int) != 0) with t2|t2
 ·have I:Hid (dB s=([],false)):=jz (by
   unfold dB
   split
   ·rfl
   ·rw[QP _ s (ja _) (by rw[bne_iff_ne] at t2;omega)])
  clear hq;go_enter func94,ntmps94
  go_wp2_with fail
  go_ret2
  exact⟨_,by rw[I.out];rfl,by rw[I.out];exact U,ji _ _⟩
 rcases jb (decide ((262144:Int)<s.length)) with t3|t3
 ·have I:Hid (dB s=([],false)):=jz (by unfold dB;rw[jP];right;have:=of_decide_eq_true t3;omega);clear hq;go_enter func94,ntmps94
  go_wp2_with fail
  go_ret2
  exact⟨_,by rw[I.out];rfl,by rw[I.out];exact U,ji _ _⟩
 have hl:s.length<=262144:=by have:=of_decide_eq_false t3;omega
 have d1:q=0:=by simpa using t2
 obtain⟨h,hh⟩:∃ h:Nat,s.length=2*h:=⟨s.length/2,by omega⟩;clear d1;have a7:Hid (dB s=match k5 s with|some d=>(d,true)|none=>([],false)):=jz (by unfold dB;rw[jQ (by omega)]);have z1:(s.length:Int).tdiv 2=(h:Int):=by rw[Int.tdiv_eq_ediv_of_nonneg (by omega)];omega
 have z2:(s.length:Int)/2=(h:Int):=by omega
 have z3:IntKind.i64.wrap (h:Int)=h:=IntWalk.i64_in _ (by omega);obtain⟨i,hi,hz,c2,a9⟩:=YT;obtain⟨w1,b1,hown,b0⟩:=run_make_own (P:=prog) w w.heap.size 68 5 i (.int .u8 0) 1 underlying68 hi hz c2 .i64 .i64 h (by rw[a9];omega) (by unfold maxLen;omega) (ja _);have HO:=jz hown;have c7:Hid (Bw w w1):=jz ((ji _ w).grown b0 (ja _) (λk hk=>by cases hk));obtain⟨v0,c3⟩:=je (Value.slice (some ⟨w.heap.size,0,none⟩) 0 h);rw[<- c3] at b1 HO;have HH:=jz hh;clear hown b0 hq c3 hi hz c2 a9 hh;go_enter func94,ntmps94
 go_wp2_with fail
 clear b1;go_loopw [4,5] (λm i wr=>∃(j:Nat) (D:Bs),j<=h/\i = .int .i64 ((2*j:Nat):Int)/\D.length=j/\Hid (OwnB wr w.heap.size m D)/\Hid (Bw w wr)/\Hid (k5 s=(k5 (s.drop (2*j))).map (D++·))) (λ_ i _=>s.length-(intOf i).toNat)
 case atStart=>exact⟨0,[],j0 _,rfl,rfl,HO,c7,jz (by simp)⟩
 case round=>
  obtain⟨j,D,hj,rfl,d2,HOJ,HBJ,Z⟩:=hrel;have hszr:=HBJ.size;rcases jo j h with e8|e0
  ·have c9:2*j+1<s.length:=by have:=HH.out;omega
   have a0:=QN (s:=s) (j:=j) c9;have a5:=a8.out (2*j) (by omega);have a6:=a8.out (2*j+1) (by omega);obtain⟨x,hx⟩:=je (s[2*j]);obtain⟨y,hy⟩:=je (s[2*j+1]);rw[<- hx] at a5 a0;rw[<- hy] at a6 a0;clear hx hy;rw[a0] at Z;have O:=λw=>zG x.toNat w
   have R:=λw=>zG y.toNat w
   rw[UInt8.ofNat_toNat] at O R;obtain⟨zx,c5⟩:=je ((x.toNat:Int));obtain⟨zy,c6⟩:=je ((y.toNat:Int));rw[<- c5] at O a5;rw[<- c6] at R a6;clear c5 c6 a0;obtain⟨a,ha⟩:=je (gL x);obtain⟨b,hb⟩:=je (gL y);rw[<- ha] at O;rw[<- hb] at R;have a3:Hid (k5 (x :: y :: s.drop (2*(j+1)))=if a<=15/\b<=15 then (k5 (s.drop (2*(j+1)))).map (UInt8.ofNat (a*16+b) :: ·) else none):=jz (by rw[ha,hb];rfl);clear ha hb;obtain⟨p,hp⟩:=je (((2*j:Nat):Int));have b7:((2*j+1:Nat):Int)=p+1:=by omega
   rw[<- hp] at a5 ⊢;rw[b7] at a6;have t5:decide (p<(s.length:Int))=true:=by simp;omega
   have y5:IntKind.i64.wrap (p+1)=p+1:=IntWalk.i64_in _ (by omega);have y6:IntKind.i64.wrap (p+2)=p+2:=IntWalk.i64_in _ (by omega);have K:=jz O;have J:=jz R;have f1:0<=p:=by omega
   have f2:p+1<(s.length:Int):=by omega
   have HP:=jz hp;clear O R hp b7;have a1:Hid (¬(a<=15/\b<=15)->dB s=([],false)):=jz (λhn=>by
    rw[a7.out,Z.out,a3.out,jQ hn];rfl)
   rcases jo 15 a with ha|ha
   ·have I:=jz (a1 (by omega));have e1:(if a<=15 then (a:Int) else -1) = -1:=jQ (by omega);have a2:=K;rw[e1] at a2;obtain⟨yb,c4⟩:=je ((if b<=15 then (b:Int) else -1));rw[<- c4] at J;clear K e1 c4;go_wp2_with (first
     | (go_at_call 143;refine(a2 _).mono ?_;rintro e w' ⟨rfl,rfl⟩)
     | (go_at_call 143;refine(J _).mono ?_;rintro e w' ⟨rfl,rfl⟩))
    go_ret2
    exact⟨_,by rw[I.out];rfl,by rw[I.out];exact World.ownsRow_nil _ _ _ _,HBJ⟩
   ·rw[jP ha] at K;have d5:decide ((a:Int)<0)=false:=by simp
    rcases jo 15 b with hb|hb
    ·have I:=jz (a1 (by omega));rw[jQ (by omega)] at J;go_wp2_with (first
      | (go_at_call 143;refine(K _).mono ?_;rintro e w' ⟨rfl,rfl⟩)
      | (go_at_call 143;refine(J _).mono ?_;rintro e w' ⟨rfl,rfl⟩))
     go_ret2
     exact⟨_,by rw[I.out];rfl,by rw[I.out];exact World.ownsRow_nil _ _ _ _,HBJ⟩
    ·rw[jP hb] at J;have d7:decide ((b:Int)<0)=false:=by simp
     have k1:IntKind.i64.wrap ((a:Int)*16)=16*(a:Int):=by rw[Int.mul_comm];exact IntWalk.i64_in _ (by omega)
     have k2:=QO a b (by omega) (by omega);have k3:IntKind.u8.wrap (((16*a+b:Nat):Int))=((16*a+b:Nat):Int):=by unfold IntKind.wrap;simp[IntKind.signed,IntKind.bits];omega
     obtain⟨c,hc⟩:∃ c:UInt8,c=UInt8.ofNat (a*16+b):=⟨_,rfl⟩;have k4:((16*a+b:Nat):Int)=(c.toNat:Int):=by rw[hc,ofNat_toNat (by omega)];omega
     rw[<- hc] at a3;rw[k4] at k2 k3;clear hc k4;go_wp2_with (first
      | (go_at_call 143;refine(K _).mono ?_;rintro e w' ⟨rfl,V⟩;rw[V];clear V)
      | (go_at_call 143;refine(J _).mono ?_;rintro e w' ⟨rfl,V⟩;rw[V];clear V)
      | (at_builtin;refine app tY (.tmp 47) (.tmp 53) rfl rfl (by rfl) (World.ownsRow.alloc HOJ _) (by rfl) (Sn.new wr (Lib.byteCells [c]).toArray 5 1 1 rfl) (fE [c]) (by unfold maxLen;omega) (by omega) (by simp;omega) ?_;intro v3 w3 hown hgrow _;rw[jt,<- cK] at hown;have HO3:=jz hown;have HB3:=jz ((HBJ.alloc hszr _).grown hgrow (by simp;omega) (λg hg=>(World.ownsRow.lt HOJ g hg).1));clear hown hgrow))
     exact⟨⟨j+1,D++[c],by omega,by rw[HP.out];congr 1,by simp;omega,jz (by unfold OwnB;rw[jj];exact HO3),HB3,jz (by rw[Z.out,a3.out,jP ⟨ha,hb⟩,Option.map_map];congr 1;funext l;simp)⟩,by rw[HP.out];simp[intOf];omega⟩
  ·obtain rfl:j=h:=by omega
   have hx:=Z.out;have d0:s.length<=2*j:=by have:=HH.out;omega
   rw[show s.drop (2*j)=[] from List.drop_eq_nil_of_le d0] at hx;have I:Hid (dB s=(D,true)):=jz (by rw[a7.out,hx];simp[k5]);clear hx;have t5:decide (((2*j:Nat):Int)<(s.length:Int))=false:=by simp;omega
   have t6:decide (2*j<s.length)=false:=by simp;omega
   go_wp2_with fail
   go_ret2
   exact⟨_,by rw[I.out];rfl,by rw[I.out];exact HOJ,HBJ⟩
theorem ZH:SlT prog 69 3 1 8:=SlT.mk' underlying69 (z:=.int .i64 0) (by kernel_rfl) rfl (by decide)
theorem QQ(l:Wl):∀ u∈nM l,u.oneCell'=true:=by
 intro u j;simp only[nM,List.mem_map] at j;obtain⟨_,_,rfl⟩:=j;rfl
theorem D4(x y:Wl):nM (x++y)=nM x++nM y:=by simp[nM]
def UI(w:Wd)(base:Nat)(v:Value)(l:Wl):Prop:=w.ownsRow base 3 1 v l.length (nM l)
def jF:List Bs->Wl->Option Wl
 | [],acc=>some acc
 | x :: ws,acc=>match kY x with
  | none=>none
  | some n=>if 64<n\/acc.length=20 then none else jF ws (acc++[(n:Int)])
def bX(s:Bs):(Int×Wl)×Bool:=match kY ((split 32 s).headD []) with
 | none=>((0,[]),false)
 | some n=>match jF (split 32 s).tail [] with
  | none=>((0,[]),false)
  | some cs=>(((n:Int),cs),true)
def MI:Value->Nat
 | .string s=>s.size
 | _=>0
def D5(rest more:Value):Nat:=match more with
 | .bool true=>MI rest+1
 | _=>0
theorem A9(s:Bs):(kY s=none/\gG s=(0,false))\/∃ n,kY s=some n/\gG s=((n:Int),true):=by
 cases h:kY s with
 | none=>exact .inl ⟨rfl,fU h⟩
 | some n=>exact .inr ⟨n,rfl,rQ h⟩
theorem BA(s:Bs)(hs:s.length<=100000000):∃(x r:Bs) (I:Bool),Lib.cut s [32]=(x,r,I)/\(split 32 s).headD []=x/\(split 32 s).tail=(if I then split 32 r else [])/\x.length<=s.length/\r.length<=s.length/\(I=true->r.length<s.length)/\(s.length<=100000000):=by
 rcases qE 32 s with ⟨_,j,D⟩|⟨w,r,h1,j,D⟩
 ·exact⟨s,[],false,D,by rw[j];rfl,by rw[j];rfl,ja _,by simp,(λh=>by cases h),hs⟩
 ·have J:s.length=w.length+(r.length+1):=by rw[h1];simp
  exact⟨w,r,true,D,by rw[j];rfl,by rw[j];rfl,by omega,by omega,(λ_=>by omega),hs⟩
theorem wJ(s:Bs)(w:Wd)(a6:ML w)(hs:s.length<=100000000):
  Wc 96 #[.string (SBy s)] w λe w'=>∃ v,e = .returned (.tuple #[.int .i64 (bX s).1.1,v,.bool (bX s).2])/\UI w' w.heap.size v (bX s).1.2/\Bw w w':=by
 have b0:=jz a6;obtain⟨x,r,mb,hcut,a0,a2,a9,a7,a4,_⟩:=BA s hs;have D:=qF 32 s w a6 hs;rw[hcut] at D;have V:Hid (Wc 93 #[.string (SBy s),.string ⟨#[32]⟩] w λe w'=>e = .returned (.tuple #[.string (SBy x),.string (SBy r),.bool mb])/\∃ n,w'=w.drewN n):=jz D;have O:=jz (λw1=>fI x w1 (by omega));have Z:Hid (bX s=match kY x with|none=>((0,[]),false)|some n=>match jF (if mb then split 32 r else []) [] with|none=>((0,[]),false)|some cs=>(((n:Int),cs),true)):=jz (by unfold bX;rw[a0,a2]);have b1:=jz a7;clear D a6 hcut a0 a2 a9 a4 a7;rcases A9 x with ⟨hn,hr⟩|⟨n,hn,hr⟩
 ·have HN:Hid (bX s=((0,[]),false)):=jz (by rw[Z.out,hn]);rw[hr] at O;clear hn hr;go_enter func96,ntmps96
  go_wp2_with (first
   | (go_at_call 93;refine V.mono ?_;rintro e w' ⟨rfl,dn,rfl⟩)
   | (go_at_call 95;refine(O _).mono ?_;rintro e w' ⟨rfl,rfl⟩))
  go_ret3
  exact⟨_,by rw[HN.out];rfl,by rw[HN.out];exact World.ownsRow_nil _ _ _ _,bY (ji _ _) _⟩
 ·have HN:Hid (bX s=match jF (if mb then split 32 r else []) [] with|none=>((0,[]),false)|some cs=>(((n:Int),cs),true)):=jz (by rw[Z.out,hn]);rw[hr] at O;clear hn hr Z;go_enter func96,ntmps96
  go_wp2_with (first
   | (go_at_call 93;refine V.mono ?_;rintro e w' ⟨rfl,dn,rfl⟩)
   | (go_at_call 95;refine(O _).mono ?_;rintro e w' ⟨rfl,j⟩;rw[j];clear j))
  go_loopw [6,7,10] (λrest more cuts wr=>∃(r1:Bs) (m1:Bool) (I:Wl),rest = .string (SBy r1)/\more = .bool m1/\I.length<=20/\r1.length<=100000000/\Hid (UI wr w.heap.size cuts I)/\Hid (Bw w wr)/\Hid (jF (if mb then split 32 r else []) []=jF (if m1 then split 32 r1 else []) I)) (λrest more _ _=>D5 rest more)
  case atStart=>exact⟨r,mb,[],rfl,rfl,by simp,by have:=b1.out;omega,jz (World.ownsRow_nil _ _ _ _),jz (bY (ji _ _) _),jz rfl⟩
  case round=>
   obtain⟨r1,m1,I,rfl,rfl,c2,a8,HO,HB,HR⟩:=hrel;have hszr:=HB.size;cases m1 with
   | false=>
    have R:Hid (bX s=(((n:Int),I),true)):=jz (by rw[HN.out,HR.out];rfl);go_wp2_with fail
    go_ret3
    exact⟨_,by rw[R.out];rfl,by rw[R.out];exact HO,HB⟩
   | true=>
    obtain⟨x2,r2,m2,hcut,a0,a2,a9,a7,a4,_⟩:=BA r1 a8;have D:=qF 32 r1 wr (b0.below HB) a8;rw[hcut] at D;have K:Hid (Wc 93 #[.string (SBy r1),.string ⟨#[32]⟩] wr λe w'=>e = .returned (.tuple #[.string (SBy x2),.string (SBy r2),.bool m2])/\∃ n,w'=wr.drewN n):=jz D;have J:=jz (λw1=>fI x2 w1 (by omega));have a3:Hid (jF (if mb then split 32 r else []) []=jF (x2 :: (if m2 then split 32 r2 else [])) I):=jz (by
     rw[HR.out,jP rfl,<- a0,<- a2]
     obtain⟨a,b,e⟩:=fP 32 r1
     rw[e];rfl)
    have HM:Hid (D5 (.string (SBy r2)) (.bool m2)<D5 (.string (SBy r1)) (.bool true)):=jz (by
     cases m2 with
     | false=>simp[D5,MI]
     | true=>have:=a4 rfl;simp[D5,MI,dY];omega)
    have b7:r2.length<=100000000:=by omega
    clear D hcut a0 a2 a4;rcases A9 x2 with ⟨U,a1⟩|⟨n2,U,a1⟩
    ·have R:Hid (bX s=((0,[]),false)):=jz (by rw[HN.out,a3.out,jF,U]);rw[a1] at J;clear U a1;go_wp2_with (first
      | (go_at_call 93;refine K.mono ?_;rintro e w' ⟨rfl,d2,rfl⟩)
      | (go_at_call 95;refine(J _).mono ?_;rintro e w' ⟨rfl,j⟩;rw[j];clear j))
     go_ret3
     exact⟨_,by rw[R.out];rfl,by rw[R.out];exact World.ownsRow_nil _ _ _ _,bY HB _⟩
    ·have a5:Hid (jF (x2 :: (if m2 then split 32 r2 else [])) I=if 64<n2\/I.length=20 then none else jF (if m2 then split 32 r2 else []) (I++[(n2:Int)])):=jz (by rw[jF,U]);have c5:=(LH U).2;rw[a1] at J;clear U a1;rcases jb (decide ((64:Int)<n2)) with t1|t1
     ·have R:Hid (bX s=((0,[]),false)):=jz (by rw[HN.out,a3.out,a5.out,jP (.inl (by have:=of_decide_eq_true t1;omega))]);go_wp2_with (first
       | (go_at_call 93;refine K.mono ?_;rintro e w' ⟨rfl,d2,rfl⟩)
       | (go_at_call 95;refine(J _).mono ?_;rintro e w' ⟨rfl,j⟩;rw[j];clear j))
      go_ret3
      exact⟨_,by rw[R.out];rfl,by rw[R.out];exact World.ownsRow_nil _ _ _ _,bY HB _⟩
     obtain⟨A4,c4,e4,_⟩:=id (show ∃ A4 c4,u10 = .slice A4 I.length c4/\True by
      rcases HO.out.2 with ⟨h1,h2⟩|⟨g,cap,c3,h1,_⟩
      ·exact⟨none,0,by rw[h1,h2],trivial⟩
      ·exact⟨_,_,h1,trivial⟩)
     subst e4;rcases jb ((I.length:Int) == 20) with t2|t2
     ·have R:Hid (bX s=((0,[]),false)):=jz (by rw[HN.out,a3.out,a5.out,jP (.inr (by have:=beq_iff_eq.1 t2;omega))]);go_wp2_with (first
       | (go_at_call 93;refine K.mono ?_;rintro e w' ⟨rfl,d2,rfl⟩)
       | (go_at_call 95;refine(J _).mono ?_;rintro e w' ⟨rfl,j⟩;rw[j];clear j))
      go_ret3
      exact⟨_,by rw[R.out];rfl,by rw[R.out];exact World.ownsRow_nil _ _ _ _,bY HB _⟩
     ·have c6:I.length≠20:=by have:=beq_eq_false_iff_ne.1 t2;omega
      have R:Hid (jF (if mb then split 32 r else []) []=jF (if m2 then split 32 r2 else []) (I++[(n2:Int)])):=jz (by rw[a3.out,a5.out,jQ (by have:=of_decide_eq_false t1;omega)]);go_wp2_with (first
       | (go_at_call 93;refine K.mono ?_;rintro e w' ⟨rfl,d2,j⟩;rw[j];clear j)
       | (go_at_call 95;refine(J _).mono ?_;rintro e w' ⟨rfl,j⟩;rw[j];clear j)
       | (at_builtin;refine app ZH (.tmp 49) (.tmp 51) rfl rfl (by rfl) (World.ownsRow.alloc (w:=wr.drewN d2) HO _) (by rfl) (Sn.new (wr.drewN d2) (nM [(n2:Int)]).toArray 3 1 1 rfl) (QQ [(n2:Int)]) (by unfold maxLen;omega) (by omega) (by simp;omega) ?_;intro v3 w3 hown hgrow _;rw[jt,<- D4] at hown;have HO3:=jz hown;have HB3:=jz (((bY HB d2).alloc hszr _).grown hgrow (by simp;omega) (λg hg=>(World.ownsRow.lt HO g hg).1));clear hown hgrow))
      exact⟨⟨r2,m2,I++[(n2:Int)],rfl,rfl,by simp;omega,b7,jz (by unfold UI;rw[jj];exact HO3),HB3,R⟩,HM⟩
end
section
def opS(k:Int)(mb:Bool)(r:Bs):Option OpD:=
 if k=2\/k=4 then (if mb then none else some ⟨k,0,[],[]⟩)
 else if k=3 then (if mb then (if (dB r).2 then some ⟨3,0,(dB r).1,[]⟩ else none) else some ⟨3,0,[],[]⟩)
 else if k=1\/k=5 then (if (gG r).2 then some ⟨k,(gG r).1,[],[]⟩ else none)
 else if k=6 then (if (bX r).2 then some ⟨6,(bX r).1.1,[],(bX r).1.2⟩ else none)
 else none
def right?(o:Option OpD):Option OpD:=o.bind λo=>if aE o then some o else none
theorem UJ(r:Bs)(h:(32:UInt8)∈r):kY r=none:=by
 rw[qA,jQ];intro e;simp only[Bool.and_eq_true] at e;have:=List.all_eq_true.1 e.2.2.2 32 h
 revert this
 decide
theorem UK(r:Bs)(h:(32:UInt8)∈r):k5 r=none:=by
 cases e:k5 r with
 | none=>rfl
 | some d=>
  have:=yU _ r d (ja _) e;rw[<- this] at h;exact absurd h (LL d 32 (by decide))
theorem rU:∀(xs:List Bs) (acc:Wl),acc.length<=20 ->
  (∃ cs,gY xs=some cs/\fC cs=true/\acc.length+cs.length<=20/\jF xs acc=some (acc++cs))\/(jF xs acc=none/\∀ cs,gY xs=some cs->¬(fC cs=true/\acc.length+cs.length<=20))
 | [],acc,h=>.inl ⟨[],rfl,rfl,by simpa using h,by simp[jF]⟩
 | x :: xs,acc,h=>by
  cases hn:kY x with
  | none=>exact .inr ⟨by rw[jF,hn],λcs e=>by unfold gY at e;rw[hn] at e;cases e⟩
  | some n=>
   by_cases hb:64<n\/acc.length=20
   ·refine .inr ⟨by rw[jF,hn];exact jP hb,λcs e j=>?_⟩;unfold gY at e;rw[hn,Option.bind_some,Option.map_eq_some_iff] at e;obtain⟨l,_,rfl⟩:=e;have h1:=(oH _).1 j.1 (n:Int) (by simp);have D:=j.2;rw[List.length_cons] at D;omega
   ·have K:jF (x :: xs) acc=jF xs (acc++[(n:Int)]):=by rw[jF,hn];exact jQ hb
    have J:gY (x :: xs)=(gY xs).map λl=>(n:Int) :: l:=by rw[gY,hn];rfl
    have I:∀ l,fC ((n:Int) :: l)=fC l:=λl=>by
     show(decide (0<=(n:Int)) && decide ((n:Int)<=64) && fC l)=fC l;rw[decide_eq_true (by omega),decide_eq_true (by omega)];rfl
    rcases rU xs (acc++[(n:Int)]) (by simp;omega) with ⟨cs,h1,D,h3,h4⟩|⟨h1,D⟩
    ·refine .inl ⟨(n:Int) :: cs,by rw[J,h1];rfl,by rw[I];exact D,?_,by rw[K,h4];simp⟩;simp at h3 ⊢;omega
    ·refine .inr ⟨by rw[K,h1],λcs e j=>?_⟩;rw[J,Option.map_eq_some_iff] at e;obtain⟨l,O,rfl⟩:=e;rw[I] at j;exact D l O ⟨j.1,by have:=j.2;simp at this ⊢;omega⟩
theorem XB(n:Int)(cs:Wl):aE ⟨6,n,[],cs⟩=(decide (0<=n) && (decide (n<=1048576) && (fC cs && decide (cs.length<=20)))):=by
 unfold aE;simp
theorem GU(n:Int)(j:List Bs):right? ((gY j).map λcs=>OpD.mk 6 n [] cs)=right? ((jF j []).map λcs=>OpD.mk 6 n [] cs):=by
 rcases rU j [] (by simp) with ⟨cs,h1,_,_,D⟩|⟨h1,x⟩
 ·rw[h1,D];rfl
 ·rw[h1];cases hc:gY j with
  | none=>rfl
  | some cs=>
   have:=x cs hc;show(if aE ⟨6,n,[],cs⟩ then _ else none)=none;rw[jQ];rw[XB];intro e;simp only[Bool.and_eq_true,decide_eq_true_eq] at e;exact this ⟨e.2.2.1,by simpa using e.2.2.2⟩
theorem D6(d:Bs)(h:131072<d.length):aE ⟨3,0,d,[]⟩=false:=by
 unfold aE;simp;omega
theorem GV(s x r:Bs)(j:Bool)(hh:(split 32 s).headD []=x)(ht:(split 32 s).tail=if j then split 32 r else [])(V:j=false->r=[]):dD s=right? (opS (dX x) j r):=by
 unfold dD;rw[hh,ht];show right? (opW (dX x) _)=_;obtain⟨k,R⟩:=je (dX x);rw[<- R];have I:=mL x;rw[<- R] at I;have O:(kY r).map (fun(n:Nat)=>OpD.mk k (n:Int) [] [])=if (gG r).2 then some ⟨k,(gG r).1,[],[]⟩ else none:=by
  rcases A9 r with ⟨h1,D⟩|⟨n,h1,D⟩ <;> (rw[h1,D];rfl)
 have J:k=1\/k=5->right? (opW k (if j then split 32 r else []))=right? (opS k j r):=by
  intro h;have e:opS k j r=if (gG r).2 then some ⟨k,(gG r).1,[],[]⟩ else none:=by
   unfold opS;rw[jQ (by omega),jQ (by omega),jP h]
  rw[e,<- O];congr 1;unfold opW;rw[jP h];cases j with
  | false=>rw[V rfl];rfl
  | true=>
   rw[jP rfl];rcases qE 32 r with ⟨_,D,_⟩|⟨a,b,h1,D,_⟩
   ·rw[D]
   ·rw[D,UJ r (by rw[h1];simp)];obtain⟨p,q,e⟩:=fP 32 b;rw[e];rfl
 have K:k=2\/k=4->right? (opW k (if j then split 32 r else []))=right? (opS k j r):=by
  intro h;congr 1;unfold opW opS;rw[jQ (by omega),jP h,jP h];cases j with
  | false=>rfl
  | true=>
   obtain⟨p,q,e⟩:=fP 32 r;rw[jP rfl,e];rfl
 have h3:k=3->right? (opW k (if j then split 32 r else []))=right? (opS k j r):=by
  rintro rfl;cases j with
  | false=>rfl
  | true=>
   show right? (match split 32 r with | []=>some ⟨3,0,[],[]⟩ | [x]=>if x=[] then none else (k5 x).map λd=>OpD.mk 3 0 d []|_=>none)=right? (if (dB r).2 then some ⟨3,0,(dB r).1,[]⟩ else none);rcases qE 32 r with ⟨_,D,_⟩|⟨a,b,h1,D,_⟩
   ·rw[D];by_cases hn:r=[]
    ·subst hn;rfl
    ·have hl:r.length≠0:=λe=>hn (List.length_eq_zero_iff.1 e)
     show right? (if r=[] then none else _)=_;rw[jQ hn];cases hx:k5 r with
     | none=>
      have:dB r=([],false):=by unfold dB;split;rfl;rw[hx]
      rw[this];rfl
     | some d=>
      have U:=wI _ r d (ja _) hx;by_cases hb:r.length>262144
      ·have:dB r=([],false):=by unfold dB;rw[jP (.inr hb)]
       rw[this];show(if aE ⟨3,0,d,[]⟩ then _ else none)=none;rw[D6 d (by omega)];rfl
      ·have:dB r=(d,true):=by unfold dB;rw[jQ (by omega),hx]
       rw[this];rfl
   ·have hm:(32:UInt8)∈r:=by rw[h1];simp
    have:dB r=([],false):=by unfold dB;split;rfl;rw[UK r hm]
    rw[this,D];obtain⟨p,q,e⟩:=fP 32 b;rw[e];rfl
 have h6:k=6->right? (opW k (if j then split 32 r else []))=right? (opS k j r):=by
  rintro rfl;have e:opS 6 j r=if (bX r).2 then some ⟨6,(bX r).1.1,[],(bX r).1.2⟩ else none:=rfl
  rw[e];cases j with
  | false=>rw[V rfl];rfl
  | true=>
   rw[jP rfl];obtain⟨p,q,e⟩:=fP 32 r;show right? (match split 32 r with|x :: xs=>(kY x).bind fun(n:Nat)=>(gY xs).map λcs=>OpD.mk 6 (n:Int) [] cs|_=>none)=_;unfold bX;rw[e,List.headD_cons,List.tail_cons];show right? ((kY p).bind fun(n:Nat)=>(gY q).map λcs=>OpD.mk 6 (n:Int) [] cs)=_;cases hn:kY p with
   | none=>rfl
   | some n=>
    rw[Option.bind_some,GU];cases jF q [] <;> rfl
 have Z:k=0->right? (opW k (if j then split 32 r else []))=right? (opS k j r):=by
  rintro rfl;rfl
 have:k=0\/(k=1\/k=5)\/(k=2\/k=4)\/k=3\/k=6:=by omega
 rcases this with h|h|h|h|h
 ·exact Z h
 ·exact J h
 ·exact K h
 ·exact h3 h
 ·exact h6 h
end
section
open Go.RowKit
def opZ:Wa:=#[.int .i64 0,.int .i64 0,.slice none 0 0,.slice none 0 0]
def OpV(w:Wd)(v:Value)(o:OpD):Prop:=∃ A ca B cb,v = .agg #[.int .i64 o.kind,.int .i64 o.n,.slice A o.data.length ca,.slice B o.cuts.length cb]/\Sn w 1 (.slice A o.data.length ca) o.data.length (Lib.byteCells o.data)/\Sn w 1 (.slice B o.cuts.length cb) o.cuts.length (nM o.cuts)
theorem OpV.below{w w':Wd}{v:Value}{o:OpD}(h:OpV w v o)(hb:Bw w w'):OpV w' v o:=by
 obtain⟨A,ca,B,cb,h1,j,x⟩:=h;exact⟨A,ca,B,cb,h1,j.below hb,x.below hb⟩
theorem Sn.nil1(w:Wd)(c:Nat):Sn w 1 (.slice none 0 c) 0 []:=⟨none,c,rfl,j0 _,rfl,λh=>by cases h⟩
def OpN(w:Wd)(base:Nat)(v:Value)(o:OpD):Prop:=∃ A ca B cb,v = .agg #[.int .i64 o.kind,.int .i64 o.n,.slice A o.data.length ca,.slice B o.cuts.length cb]/\Sn w 1 (.slice A o.data.length ca) o.data.length (Lib.byteCells o.data)/\Sn w 1 (.slice B o.cuts.length cb) o.cuts.length (nM o.cuts)/\(∀ b off,A=some ⟨b,off,none⟩->base<=b/\b<w.heap.size)/\(∀ b off,B=some ⟨b,off,none⟩->base<=b/\b<w.heap.size)
theorem OpN.v{w:Wd}{base:Nat}{v:Value}{o:OpD}(h:OpN w base v o):OpV w v o:=by
 obtain⟨A,ca,B,cb,h1,j,x,_⟩:=h;exact⟨A,ca,B,cb,h1,j,x⟩
theorem OpN.below{w w':Wd}{base:Nat}{v:Value}{o:OpD}(h:OpN w base v o)(hb:Bw w w'):OpN w' base v o:=by
 obtain⟨A,ca,B,cb,h1,j,x,D,I⟩:=h;have hs:=hb.size;exact⟨A,ca,B,cb,h1,j.below hb,x.below hb,λb off e=>by have:=D b off e;omega,λb off e=>by have:=I b off e;omega⟩
theorem OpN.mono{w:Wd}{base base':Nat}{v:Value}{o:OpD}(h:OpN w base v o)(hb:base'<=base):OpN w base' v o:=by
 obtain⟨A,ca,B,cb,h1,j,x,D,I⟩:=h;exact⟨A,ca,B,cb,h1,j,x,λb off e=>by have:=D b off e;omega,λb off e=>by have:=I b off e;omega⟩
theorem OpV.zero(w:Wd):OpV w (.agg opZ) op0:=⟨none,0,none,0,rfl,Sn.nil1 w 0,Sn.nil1 w 0⟩
theorem fV(k n:Int)(A:Option Addr)(l ca:Nat)(B:Option Addr)(m cb:Nat):(#[.int .i64 k,.int .i64 n,.slice A l ca,.slice B m cb]:Wa).all (·.oneCell')=true:=by
 simp[Value.oneCell']
theorem qG{w:Wd}{base e s n:Nat}{v:Value}{x:Wv}(h:w.ownsRow base e s v n x){g:Nat}(hg:g<base)(i:Nat)(u:Value):(w.setCell ⟨g,i,none⟩ u).ownsRow base e s v n x:=by
 refine⟨h.1,?_⟩;rcases h.2 with D|⟨q,cap,j,h1,I,J,K⟩
 ·exact .inl D
 ·exact .inr ⟨q,cap,j,h1,I,(Below.heap_setCell w ⟨g,i,none⟩ u q (by simp;omega)).trans J,K⟩
theorem kN{w:Wd}{base e s n:Nat}{v:Value}{j:Wv}(h:w.ownsRow base e s v n j):∃ A cap,v = .slice A n cap/\Sn w s (.slice A n cap) n j/\∀ b off,A=some ⟨b,off,none⟩->base<=b/\b<w.heap.size:=by
 have hs:=Sn.own h;obtain⟨A,cap,rfl,_⟩:=id hs;exact⟨A,cap,rfl,hs,λb off e=>h.lt b (by rw[e];rfl)⟩
theorem Sn.other{w w':Wd}{s n cap:Nat}{A:Option Addr}{I:Wv}(h:Sn w s (.slice A n cap) n I){g:Nat}(K:∀ b off,A=some ⟨b,off,none⟩->g<b)(V:∀ x,x≠g->w'.heap[x]? = w.heap[x]?):Sn w' s (.slice A n cap) n I:=by
 obtain⟨A',D,hv,h1,J,Z⟩:=h;injection hv with e1 _ e3
 subst e1 e3;refine⟨_,_,rfl,h1,J,λU=>?_⟩;obtain⟨b,off,e,O⟩:=Z U;exact⟨b,off,e,λj u R=>(World.cell?_of_block (V b (Nat.ne_of_gt (K b off e)))).trans (O j u R)⟩
theorem MJ(r:Bs):(dB r).1.length<=262144:=by
 unfold dB;split
 ·simp
 ·cases h:k5 r with
  | none=>simp
  | some d=>have:=wI _ r d (ja _) h;show d.length<=_;omega
theorem GW(r:Bs):(bX r).1.2.length<=20:=by
 unfold bX;split
 ·simp
 ·rename_i n _;rcases rU (split 32 r).tail [] (by simp) with ⟨cs,_,_,j,x⟩|⟨h1,_⟩
  ·rw[x];simpa using j
  ·rw[h1];simp
theorem OpN.zero(w:Wd)(base:Nat):OpN w base (.agg opZ) op0:=⟨none,0,none,0,rfl,Sn.nil1 w 0,Sn.nil1 w 0,(λ_ _ h=>by cases h),λ_ _ h=>by cases h⟩
structure PS(w:Wd)(g11:Nat)(k:Int)(mb:Bool)(r:Bs)(b:Bool)(n:Int)(d:Bs)(c:Wl)(A:Option Addr)(ca:Nat)(B:Option Addr)(cb:Nat)(wx:Wd):Prop where
 b11:Blk wx g11 71 #[.int .i64 k,.int .i64 n,.slice A d.length ca,.slice B c.length cb]
 b4:Blk wx w.heap.size 71 opZ
 data:Sn wx 1 (.slice A d.length ca) d.length (Lib.byteCells d)
 cuts:Sn wx 1 (.slice B c.length cb) c.length (nM c)
 bel:Bw w wx
 res:opS k mb r=if b then some ⟨k,n,d,c⟩ else none
 gle:w.heap.size+1<=g11
 nA:∀ b off,A=some ⟨b,off,none⟩->w.heap.size<b/\b<wx.heap.size
 nB:∀ b off,B=some ⟨b,off,none⟩->w.heap.size<b/\b<wx.heap.size
 dl:d.length<=1000000000
 cl:c.length<=1000000000
theorem xW(s:Bs)(b:Nat)(w:Wd)(f6:ML w)(hs:s.length<=100000000)(c7:SM w b 6 (tA 6)):
  Wc 63 #[.string (SBy s),.map (some b)] w λe w'=>∃ v,e = .returned (.tuple #[v,.bool (dD s).isSome])/\OpN w' w.heap.size v ((dD s).getD op0)/\Bw w w':=by
 have e1:=jz f6;have e0:=jz c7;obtain⟨x,r,mb,hcut,f3,g0,h6,h4,h5,_⟩:=BA s hs;have f7:mb=false->r=[]:=λh=>by
  rcases qE 32 s with ⟨_,_,h3⟩|⟨p,q,_,_,h3⟩
  ·rw[h3] at hcut;exact(Prod.mk.inj (Prod.mk.inj hcut).2).1.symm
  ·rw[h3] at hcut;have:=(Prod.mk.inj (Prod.mk.inj hcut).2).2;rw[h] at this;cases this
 have HP:=jz (GV s x r mb f3 g0 f7);have a3:Hid (∀ w1,Bw w w1->Wc 93 #[.string (SBy s),.string ⟨#[32]⟩] w1 λe w'=>e = .returned (.tuple #[.string (SBy x),.string (SBy r),.bool mb])/\∃ n,w'=w1.drewN n):=jz (λw1 hb=>by
  have h:=qF 32 s w1 (e1.below hb) hs
  rw[hcut] at h
  exact h)
 have a6:Hid (∀ w1,Bw w w1->(Instr.lookup 131 (.map (some b)) (.string (SBy x)) true).run prog w1 = .ok (.tuple #[(tA 6 x).getD (.int .i64 0),.bool (tA 6 x).isSome]) w1):=jz (λw1 hb=>(e0.keep hb).look underlying131 (by kernel_rfl) (by unfold SOk maxLen;omega));have c4:Hid (r.length<=100000000):=jz (by omega);clear f6 c7 hcut f3 g0 h6 h4 h5 f7;have hk:=mL x;obtain⟨k,d2⟩:=je (dX x);have f4:tA 6 x=if k=0 then none else some (.int .i64 k):=by
  unfold tA;rw[<- d2] at hk ⊢;by_cases h:k=0
  ·rw[jP h,jQ (by omega)]
  ·rw[jQ h,jP (by omega)]
 rw[<- d2] at hk HP;rw[f4] at a6;clear d2 f4;have hz:∀ w,(zeroValue 71).run prog w = .ok (.agg opZ) w:=λw=>by kernel_rfl
 by_cases hk0:k=0
 ·subst hk0;have HF:Hid (dD s=none):=jz HP.out;rw[jP rfl] at a6;clear HP;go_enter func63,ntmps63
  go_wp2_with (first
   | (go_at_call 93;refine(a3 _ (aT _ _)).mono ?_;rintro e w' ⟨rfl,dn,a1⟩;have a5:Bw w w':=(by rw[a1];exact bY (aT _ _) _);have f5:=a6.out _ a5;have c2:Hid (Blk w' w.heap.size 71 opZ):=jz (by rw[a1];exact(Blk.new _ _ _).drewN _);have c3:=jz a5;clear a1 a5)
   | (refine aO 71 (.tmp 4) (.tmp 26) rfl rfl (by rfl) (by rfl) c2 (by kernel_rfl) rfl (fV _ _ _ _ _ _ _ _) ?_;intro w2 h2 h3 _ _;have I:=jz h2;have c9:=jz (c3.trans h3);clear h2 h3))
  exact bodyPost_ret (aC rfl _ rfl I.range underlying71 rfl (by kernel_rfl)) rfl ⟨_,by rw[HF.out];rfl,by rw[HF.out];exact OpN.zero _ _,c9⟩
 ·rw[jQ hk0] at a6;have k0:1<=k:=by omega
  go_enter func63,ntmps63
  go_upto_block 0 with (first
   | (go_at_call 93;refine(a3 _ (aT _ _)).mono ?_;rintro e w' ⟨rfl,dn,a1⟩;have a5:Bw w w':=(by rw[a1];exact bY (aT _ _) _);have f5:=a6.out _ a5;have c2:Hid (Blk w' w.heap.size 71 opZ):=jz (by rw[a1];exact(Blk.new _ _ _).drewN _);have c3:=jz a5;have d0:Hid (w'.heap.size=w.heap.size+1):=jz (by rw[a1];simp);clear a1 a5)
   | (refine bZ (cells:=#[.int .i64 k,.int .i64 0,.slice none 0 0,.slice none 0 0]) 71 (.tmp 11) (.tmp 28) rfl rfl (by rfl) (by rfl) (by kernel_rfl) rfl (fV _ _ _ _ _ _ _ _) ?_;intro w2 h2 h3 _;have J:Hid (Blk w2 w'.heap.size 71 #[.int .i64 k,.int .i64 0,.slice none 0 0,.slice none 0 0]):=jz h2;have I:=jz (aA c3 h3);have D:=jz (c2.keep h3);have f9:w'.heap.size+1<=w2.heap.size:=J.out.lt;clear h2 h3))
  obtain⟨g,hg⟩:=je (w'.heap.size);rw[<- hg] at J d0 f9;rw[<- hg];have K:Hid (w.heap.size+1<=g):=jz (by have:=d0.out;omega);clear hg d0;go_cut [10] from 30 to 71 (λh7 wx=>∃(bb:Bool) (n:Int) (d:Bs) (c:Wl) (A:Option Addr) (ca:Nat) (B:Option Addr) (cb:Nat),h7 = .bool bb/\Hid (PS w g k mb r bb n d c A ca B cb wx))
  case first=>as_aux_lemma=>
   have h0:k=1\/k=2\/k=3\/k=4\/k=5\/k=6:=by omega
   rcases h0 with e|e|e|e|e|e
   ·obtain rfl:k=1:=by omega
    have b0:=J.out.cell 1;have f2:=J.out.frozen 1;simp only[jf,jg,jh] at b0;have a9:=jz (fI r w2 (by have:=c4.out;omega));go_wp2_with (go_at_call 95;refine a9.mono ?_;rintro e w3 ⟨rfl,b7⟩;rw[b7];clear b7)
    go_meet
    exact⟨(gG r).2,(gG r).1,[],[],none,0,none,0,rfl,jz ⟨J.out.set_ 1 _,D.far (by have:=K.out;simp;omega) _,Sn.nil1 _ _,Sn.nil1 _ _,I.setCell (p:=⟨g,1,none⟩) (by have:=K.out;simp;omega) _,rfl,K,(λ_ _ h=>by cases h),(λ_ _ h=>by cases h),by simp,by simp⟩⟩
   ·obtain rfl:k=2:=by omega
    cases mb with
    | false=>
     go_wp2_with fail
     go_meet
     exact⟨true,0,[],[],none,0,none,0,rfl,jz ⟨J,D,Sn.nil1 _ _,Sn.nil1 _ _,I,rfl,K,(λ_ _ h=>by cases h),(λ_ _ h=>by cases h),by simp,by simp⟩⟩
    | true=>
     go_wp2_with fail
     go_meet
     exact⟨false,0,[],[],none,0,none,0,rfl,jz ⟨J,D,Sn.nil1 _ _,Sn.nil1 _ _,I,rfl,K,(λ_ _ h=>by cases h),(λ_ _ h=>by cases h),by simp,by simp⟩⟩
   ·obtain rfl:k=3:=by omega
    cases mb with
    | false=>
     go_wp2_with fail
     go_meet
     exact⟨true,0,[],[],none,0,none,0,rfl,jz ⟨J,D,Sn.nil1 _ _,Sn.nil1 _ _,I,rfl,K,(λ_ _ h=>by cases h),(λ_ _ h=>by cases h),by simp,by simp⟩⟩
    | true=>
     have d5:=jz (xV r w2 c4);have a8:Hid (∀(v:Value) (w3:Wd),OwnB w3 w2.heap.size v (dB r).1->Bw w2 w3->∃ A ca,v = .slice A (dB r).1.length ca/\PS w g 3 true r (dB r).2 0 (dB r).1 [] A ca none 0 (w3.setCell ⟨g,2,none⟩ v)):=jz (λv w3 h1 h2=>by
      obtain⟨A,ca,rfl,hs,hA⟩:=kN h1
      have c6:g<w2.heap.size:=by omega
      refine⟨A,ca,rfl,⟨(J.out.keep h2).set_ 2 _,(D.keep h2).far (by have:=K.out;simp;omega) _,Sn.own (qG h1 c6 2 _),Sn.nil1 _ _,(aA I h2).setCell (p:=⟨g,2,none⟩) (by have:=K.out;simp;omega) _,rfl,K,(λb off e=>by have:=hA b off e;have:=K.out;simp;omega),(λ_ _ h=>by cases h),by have:=MJ r;omega,by simp⟩⟩)
     go_wp2_with (go_at_call 94;refine d5.mono ?_;rintro e w3 ⟨v3,rfl,a0,O⟩;have g3:=(J.out.keep O).cell 2;have h8:=(J.out.keep O).frozen 2;simp only[jf,jg,jh] at g3;obtain⟨A3,d1,e3,b1⟩:=a8.out v3 w3 a0 O;subst e3;have j:=jz b1;clear b1 a0)
     go_meet
     exact⟨(dB r).2,0,(dB r).1,[],A3,d1,none,0,rfl,j⟩
   ·obtain rfl:k=4:=by omega
    cases mb with
    | false=>
     go_wp2_with fail
     go_meet
     exact⟨true,0,[],[],none,0,none,0,rfl,jz ⟨J,D,Sn.nil1 _ _,Sn.nil1 _ _,I,rfl,K,(λ_ _ h=>by cases h),(λ_ _ h=>by cases h),by simp,by simp⟩⟩
    | true=>
     go_wp2_with fail
     go_meet
     exact⟨false,0,[],[],none,0,none,0,rfl,jz ⟨J,D,Sn.nil1 _ _,Sn.nil1 _ _,I,rfl,K,(λ_ _ h=>by cases h),(λ_ _ h=>by cases h),by simp,by simp⟩⟩
   ·obtain rfl:k=5:=by omega
    have b0:=J.out.cell 1;have f2:=J.out.frozen 1;simp only[jf,jg,jh] at b0;have a9:=jz (fI r w2 (by have:=c4.out;omega));go_wp2_with (go_at_call 95;refine a9.mono ?_;rintro e w3 ⟨rfl,b7⟩;rw[b7];clear b7)
    go_meet
    exact⟨(gG r).2,(gG r).1,[],[],none,0,none,0,rfl,jz ⟨J.out.set_ 1 _,D.far (by have:=K.out;simp;omega) _,Sn.nil1 _ _,Sn.nil1 _ _,I.setCell (p:=⟨g,1,none⟩) (by have:=K.out;simp;omega) _,rfl,K,(λ_ _ h=>by cases h),(λ_ _ h=>by cases h),by simp,by simp⟩⟩
   ·obtain rfl:k=6:=by omega
    have g1:=jz (wJ r w2 (e1.below I) c4);have a8:Hid (∀(v:Value) (w3:Wd),UI w3 w2.heap.size v (bX r).1.2->Bw w2 w3->∃ A ca,v = .slice A (bX r).1.2.length ca/\PS w g 6 mb r (bX r).2 (bX r).1.1 [] (bX r).1.2 none 0 A ca ((w3.setCell ⟨g,1,none⟩ (.int .i64 (bX r).1.1)).setCell ⟨g,3,none⟩ v)):=jz (λv w3 h1 h2=>by
     obtain⟨A,ca,rfl,hs,hA⟩:=kN h1
     have c6:g<w2.heap.size:=by omega
     refine⟨A,ca,rfl,⟨((J.out.keep h2).set_ 1 _).set_ 3 _,((D.keep h2).far (by have:=K.out;simp;omega) _).far (by have:=K.out;simp;omega) _,Sn.nil1 _ _,Sn.own (qG (qG h1 c6 1 _) c6 3 _),((aA I h2).setCell (p:=⟨g,1,none⟩) (by have:=K.out;simp;omega) _).setCell (p:=⟨g,3,none⟩) (by have:=K.out;simp;omega) _,rfl,K,(λ_ _ h=>by cases h),(λb off e=>by have:=hA b off e;have:=K.out;simp;omega),by simp,by have:=GW r;omega⟩⟩)
    go_wp2_with (go_at_call 96;refine g1.mono ?_;rintro e w3 ⟨v3,rfl,a0,O⟩;have b0:=(J.out.keep O).cell 1;have f2:=(J.out.keep O).frozen 1;have g8:=((J.out.keep O).set_ 1 (.int .i64 (bX r).1.1)).cell 3;have h9:=((J.out.keep O).set_ 1 (.int .i64 (bX r).1.1)).frozen 3;simp only[jf,jg,jh,List.setIfInBounds_toArray,List.set_cons_succ,List.set_cons_zero] at b0 g8;obtain⟨A3,d1,e3,b1⟩:=a8.out v3 w3 a0 O;subst e3;have j:=jz b1;clear b1 a0)
    go_meet
    exact⟨(bX r).2,(bX r).1.1,[],(bX r).1.2,none,0,A3,d1,rfl,j⟩
  case rest=>
  obtain⟨bb,n,d,c,A,ca,B,cb,rfl,j⟩:=hcut;have HR:Hid (dD s=right? (if bb then some ⟨k,n,d,c⟩ else none)):=jz (by rw[HP.out,j.res]);clear I D J c2 c3 a6 a3 f5;cases bb with
  | false=>
   have HF:Hid (dD s=none):=jz HR.out;have R:=jz j.b4;go_wp2_with (first
    | (refine aO 71 (.tmp 4) (.tmp 70) rfl rfl (by rfl) (by rfl) R (by kernel_rfl) rfl (fV _ _ _ _ _ _ _ _) ?_;intro wE U V _ _;have a7:=jz U;have a4:=jz V;clear U V))
   exact bodyPost_ret (aC rfl _ rfl a7.range underlying71 rfl (by kernel_rfl)) rfl ⟨_,by rw[HF.out];rfl,by rw[HF.out];exact OpN.zero _ _,j.bel.trans a4⟩
  | true=>
   have f8:wc.rangeAt g 0 [.int .i64 k,.int .i64 n,.slice A d.length ca,.slice B c.length cb]:=j.b11.range;have e8:=jz f8;have c5:=jz (zC k n d c A B ca cb wc j.cuts (by have:=j.cl;omega) (by have:=j.dl;omega));clear f8;rcases jb (aE ⟨k,n,d,c⟩) with hr|hr
   ·rw[hr] at c5;have HF:Hid (dD s=some ⟨k,n,d,c⟩):=jz (by rw[HR.out];show(if aE _ then _ else none)=_;rw[hr];rfl);clear hr HR;go_wp2_with (first
     | (refine ld 71 (.tmp 11) rfl rfl (by rfl) e8 underlying71 rfl (by kernel_rfl) ?_)
     | (go_at_call 37;refine c5.mono ?_;rintro e w5 ⟨rfl,Z⟩;have a2:=jz Z;have R:=jz (j.b4.keep Z);have f0:Hid (w5.rangeAt g 0 [.int .i64 k,.int .i64 n,.slice A d.length ca,.slice B c.length cb]):=jz (j.b11.keep Z).range;clear Z)
     | (refine ld 71 (.tmp 11) rfl rfl (by rfl) f0 underlying71 rfl (by kernel_rfl) ?_)
     | (refine aO (cells:=#[.int .i64 k,.int .i64 n,.slice A d.length ca,.slice B c.length cb]) 71 (.tmp 4) (.tmp 71) rfl rfl (by rfl) (by rfl) R (by kernel_rfl) rfl (fV _ _ _ _ _ _ _ _) ?_;intro wE U V f1 _;have a7:=jz U;have a4:=jz V;have d7:=jz f1;clear U V f1))
    have c9:=jz ((aA j.bel a2).trans a4);have g2:Hid (OpN wE w.heap.size (.agg #[.int .i64 k,.int .i64 n,.slice A d.length ca,.slice B c.length cb]) ⟨k,n,d,c⟩):=jz ⟨A,ca,B,cb,rfl,(j.data.below a2).other (λb off e=>(j.nA b off e).1) d7,(j.cuts.below a2).other (λb off e=>(j.nB b off e).1) d7,(λb off e=>by have h1:=j.nA b off e;have h2:=a2.size;have h3:=a4.size;omega),λb off e=>by have h1:=j.nB b off e;have h2:=a2.size;have h3:=a4.size;omega⟩;exact bodyPost_ret (aC rfl _ rfl a7.range underlying71 rfl (by kernel_rfl)) rfl ⟨_,by rw[HF.out];rfl,by rw[HF.out];exact g2,c9⟩
   ·rw[hr] at c5;have HF:Hid (dD s=none):=jz (by rw[HR.out];show(if aE _ then _ else none)=_;rw[hr];rfl);clear hr HR;go_wp2_with (first
     | (refine ld 71 (.tmp 11) rfl rfl (by rfl) e8 underlying71 rfl (by kernel_rfl) ?_)
     | (go_at_call 37;refine c5.mono ?_;rintro e w5 ⟨rfl,Z⟩;have a2:=jz Z;have R:=jz (j.b4.keep Z);clear Z)
     | (refine aO 71 (.tmp 4) (.tmp 70) rfl rfl (by rfl) (by rfl) R (by kernel_rfl) rfl (fV _ _ _ _ _ _ _ _) ?_;intro wE U V _ _;have a7:=jz U;have a4:=jz V;clear U V))
    exact bodyPost_ret (aC rfl _ rfl a7.range underlying71 rfl (by kernel_rfl)) rfl ⟨_,by rw[HF.out];rfl,by rw[HF.out];exact OpN.zero _ _,(aA j.bel a2).trans a4⟩
end
end Go.Proofs.YtiaigidbcljblaaGreatDoor
