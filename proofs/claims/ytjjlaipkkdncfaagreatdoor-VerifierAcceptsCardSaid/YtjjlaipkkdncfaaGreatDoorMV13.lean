import Derived.Test.YtjjlaipkkdncfaaGreatDoorMV10
set_option linter.unusedVariables false
set_option linter.unusedSimpArgs false
set_option maxRecDepth 100000
set_option maxHeartbeats 40000000
namespace Go.Proofs.YtjjlaipkkdncfaaGreatDoor
open Go.Proofs.Tryz
open Go.RowKit
attribute [local irreducible] wpQuiet wpAnyH
def sboxL:List Nat:=[99,124,119,123,242,107,111,197,48,1,103,43,254,215,171,118,202,130,201,125,250,89,71,240,173,212,162,175,156,164,114,192,183,253,147,38,54,63,247,204,52,165,229,241,113,216,49,21,4,199,35,195,24,150,5,154,7,18,128,226,235,39,178,117,9,131,44,26,27,110,90,160,82,59,214,179,41,227,47,132,83,209,0,237,32,252,177,91,106,203,190,57,74,76,88,207,208,239,170,251,67,77,51,133,69,249,2,127,80,60,159,168,81,163,64,143,146,157,56,245,188,182,218,33,16,255,243,210,205,12,19,236,95,151,68,23,196,167,126,61,100,93,25,115,96,129,79,220,34,42,144,136,70,238,184,20,222,94,11,219,224,50,58,10,73,6,36,92,194,211,172,98,145,149,228,121,231,200,55,109,141,213,78,169,108,86,244,234,101,122,174,8,186,120,37,46,28,166,180,198,232,221,116,31,75,189,139,138,112,62,181,102,72,3,246,14,97,53,87,185,134,193,29,158,225,248,152,17,105,217,142,148,155,30,135,233,206,85,40,223,140,161,137,13,191,230,66,104,65,153,45,15,176,84,187,22]
def bO(a:Nat):Nat:=sboxL.getD a 0
theorem fT(a:Nat):bO a<256:=by
 unfold bO;rw[jn];cases h:sboxL[a]? with
 | none=>decide
 | some x=>
  have ha:sboxL.all (λx=>decide (x<256))=true:=by kernel_rfl
  exact of_decide_eq_true (List.all_eq_true.1 ha x (List.mem_of_getElem? h))
attribute [irreducible] sboxL
theorem MN(s:ByteArray)(hs:s.data.toList.map (·.toNat)=sboxL)(a:Nat)(h:a<s.size):s[a].toNat=bO a:=by
 have D:a<s.data.toList.length:=h;have e:s[a]=s.data.toList[a]:=rfl;unfold bO;rw[e,<- hs,jn,List.getElem?_map,List.getElem?_eq_getElem D];rfl
theorem pC(a:Nat)(w:Wd)(ha:a<256):Wc 259 #[.int .u8 (a:Nat)] w λe w'=>e = .returned (.int .u8 (bO a:Nat))/\w'=w:=by
 have D:(a:Int)<256:=by omega
 go_enter func259,ntmps259
 go_wp2_with fail
 go_ret;refine⟨?_,rfl⟩;exact congrArg (λn:Nat=>Ending.returned (.int .u8 (n:Int))) (MN _ (by kernel_rfl) a (Nat.lt_of_lt_of_eq ha (by kernel_rfl)))
def xt(a:Nat):Nat:=if a/128=0 then a*2 % 256 else (a*2 % 256) ^^^ 27
def prd:Nat->Nat->Nat->Nat->Nat
 | 0,_,_,p=>p
 | n+1,a,b,p=>if b=0 then p else prd n (xt a) (b/2) (if b % 2=0 then p else p ^^^ a)
def mB(a b:Nat):Nat:=prd 8 a b 0
theorem B9{a:Nat}(h:a<256):xt a<256:=by
 unfold xt;split
 ·omega
 ·exact Nat.xor_lt_two_pow (n:=8) (by omega) (by omega)
theorem MO:∀ n {a b p:Nat},a<256->p<256->prd n a b p<256
 | 0,_,_,_,_,hp=>hp
 | n+1,a,b,p,ha,hp=>by
  unfold prd;split
  ·exact hp
  ·refine MO n (B9 ha) ?_;split
   ·exact hp
   ·exact Nat.xor_lt_two_pow (n:=8) hp ha
theorem zB{a b:Nat}(h:a<256):mB a b<256:=MO 8 h (by omega)
theorem MP:∀ n a p,prd n a 0 p=p
 | 0,_,_=>rfl
 | n+1,_,_=>by unfold prd;rw[jP rfl]
theorem rU(a b:Nat)(w:Wd)(ha:a<256)(hb:b<256):Wc 262 #[.int .u8 (a:Nat),.int .u8 (b:Nat)] w λe w'=>e = .returned (.int .u8 (mB a b:Nat))/\w'=w:=by
 go_enter func262,ntmps262
 go_wp2_with fail
 go_loopw [0,1,5] (λx y z wr=>∃ n a' I p':Nat,n<=8/\a'<256/\I<2 ^ n/\p'<256/\x = .int .u8 (a':Nat)/\y = .int .u8 (I:Nat)/\z = .int .u8 (p':Nat)/\Hid (prd n a' I p'=mB a b)/\wr=w) (λ_ y _ _=>(intOf y).toNat)
 case atStart=>exact⟨8,a,b,0,ja _,ha,hb,by omega,rfl,rfl,rfl,jz rfl,rfl⟩
 case round=>
  obtain⟨n,a',I,p',hn,J,Z,O,rfl,rfl,rfl,HP,hw⟩:=hrel;rw[hw];clear hw;rcases Nat.eq_zero_or_pos I with h0|h0
  ·have K:=HP.out;rw[h0,MP] at K;have a6:((I:Nat):Int)=0:=by omega
   go_wp2_with fail
   go_ret;exact⟨by rw[<- K];rfl,rfl⟩
  ·obtain⟨m,rfl⟩:∃ m,n=m+1:=⟨n-1,by
    rcases Nat.eq_zero_or_pos n with e|e
    ·subst e;simp at Z;omega
    ·omega⟩
   have K:=HP.out;unfold prd at K;rw[jQ (by omega)] at K;have a6:¬((I:Nat):Int)=0:=by omega
   have a0:I/2<2 ^ m:=by rw[Nat.pow_succ] at Z;omega
   have a1:I/2<I:=by omega
   have R:a'*2 % 256<256:=Nat.mod_lt _ (by omega);obtain⟨X,hX⟩:=je (a'*2 % 256);rw[<- hX] at R;have e3:((a':Nat):Int)*2 % 256=(X:Int):=by omega
   have e4:bits .xor .u8 (X:Int) 27=((X ^^^ 27:Nat):Int):=u8_xor_nat X 27 R (by omega);have e5:=u8_xor_nat p' a' O J;have a2:p' ^^^ a'<256:=Nat.xor_lt_two_pow (n:=8) O J;have U:=B9 J;obtain⟨B2,a5⟩:=je (I/2);rw[<- a5] at K a0 a1;have a7:((I:Nat):Int)/2=(B2:Int):=by omega
   have ea:=u8_and_nat I 1 (jp Z (by have:=Nat.pow_le_pow_right (n:=2) (by omega) hn;exact this)) (by omega);rw[Nat.and_one_is_mod] at ea;have HN:=jz hn;rcases jo a' 128 with h7|h7
   ·have D:xt a'=X:=by unfold xt;rw[jP (by omega),hX]
    have e2:((a':Nat):Int)/128=0:=by omega
    have e3:((a':Nat):Int)*2=(X:Int):=by omega
    rw[D] at U;have HX:Hid (X<256/\xt a'<256/\True):=jz ⟨R,B9 J,trivial⟩;have HB:=jz (And.intro a0 a1);have a3:=jz (And.intro a2 O);have a4:=jz U;rcases Nat.mod_two_eq_zero_or_one I with hm|hm
    ·rw[jP hm,D] at K;have e1:bits .and .u8 ((I:Nat):Int) 1=0:=by rw[show(1:Int)=((1:Nat):Int) from rfl,ea,hm];rfl
     have V:=jz K;clear K HP ea hX D Z a0 a1 R a2 O U h7 J hm h0 hn a5;go_wp2_with fail
     exact⟨⟨m,X,B2,p',by have:=HN.out;omega,a4,HB.out.1,a3.out.2,rfl,rfl,rfl,V,trivial⟩,by have:=HB.out.2;simp[intOf];omega⟩
    ·rw[jQ (by omega),D] at K;have e1:bits .and .u8 ((I:Nat):Int) 1=1:=by rw[show(1:Int)=((1:Nat):Int) from rfl,ea,hm]
     have V:=jz K;clear K HP ea hX D Z a0 a1 R a2 O U h7 J hm h0 hn a5;go_wp2_with fail
     exact⟨⟨m,X,B2,p' ^^^ a',by have:=HN.out;omega,a4,HB.out.1,a3.out.1,rfl,rfl,rfl,V,trivial⟩,by have:=HB.out.2;simp[intOf];omega⟩
   ·have D:xt a'=X ^^^ 27:=by unfold xt;rw[jQ (by omega),hX]
    have e2:((a':Nat):Int)/128=1:=by omega
    rw[D] at U;have HX:Hid (X<256/\xt a'<256/\True):=jz ⟨R,B9 J,trivial⟩;have HB:=jz (And.intro a0 a1);have a3:=jz (And.intro a2 O);have a4:=jz U;rcases Nat.mod_two_eq_zero_or_one I with hm|hm
    ·rw[jP hm,D] at K;have e1:bits .and .u8 ((I:Nat):Int) 1=0:=by rw[show(1:Int)=((1:Nat):Int) from rfl,ea,hm];rfl
     have V:=jz K;clear K HP ea hX D Z a0 a1 R a2 O U h7 J hm h0 hn a5;go_wp2_with fail
     exact⟨⟨m,X ^^^ 27,B2,p',by have:=HN.out;omega,a4,HB.out.1,a3.out.2,rfl,rfl,rfl,V,trivial⟩,by have:=HB.out.2;simp[intOf];omega⟩
    ·rw[jQ (by omega),D] at K;have e1:bits .and .u8 ((I:Nat):Int) 1=1:=by rw[show(1:Int)=((1:Nat):Int) from rfl,ea,hm]
     have V:=jz K;clear K HP ea hX D Z a0 a1 R a2 O U h7 J hm h0 hn a5;go_wp2_with fail
     exact⟨⟨m,X ^^^ 27,B2,p' ^^^ a',by have:=HN.out;omega,a4,HB.out.1,a3.out.1,rfl,rfl,rfl,V,trivial⟩,by have:=HB.out.2;simp[intOf];omega⟩
attribute [irreducible] mB
theorem MQ(a b:Nat)(v:Value)(w:Wd)(ha:a<256)(hb:b<256)(hs:Sn w 1 v 1 (n8 [b])):Wc 260 #[.int .u8 (a:Nat),v] w λe w'=>e = .returned (.int .u8 (mB a b:Nat))/\w'=w:=by
 obtain⟨A,cap,rfl,I,_,O⟩:=hs;obtain⟨g,off,rfl,J⟩:=O (by omega);have V:w.cell? ⟨g,off,none⟩=some (.int .u8 (b:Nat)):=J 0 _ rfl;have R:=jz (rU a b w ha hb);clear O J;go_enter func260,ntmps260
 go_wp2_with fail
 go_loopw [9,0] (λi x wr=>(i = .int .i64 0/\x = .int .u8 (a:Nat)\/i = .int .i64 1/\x = .int .u8 (mB a b:Nat))/\wr=w) (λi _ _=>1-(intOf i).toNat)
 case atStart=>exact⟨.inl ⟨rfl,rfl⟩,rfl⟩
 case round=>
  obtain⟨h,K⟩:=hrel;rw[K];clear K;rcases h with ⟨rfl,rfl⟩|⟨rfl,rfl⟩
  ·go_wp2_with fail
   refine R.mono ?_;rintro e U ⟨rfl,D⟩;rw[D];clear D U;go_wp2_with fail
   exact⟨⟨.inr ⟨rfl,rfl⟩,trivial⟩,by simp[intOf]⟩
  ·go_wp2_with fail
   go_ret;exact⟨rfl,rfl⟩
def JQ(a b:Nat->Nat):Nat->Nat
 | 0=>0
 | k+1=>JQ a b k ^^^ mB (b k) (a k)
def MT(a b:Nat->Nat):Nat:=JQ a b 4
theorem zC{a b:Nat->Nat}(hb:aQ b):∀ k,JQ a b k<256
 | 0=>by show 0<256;omega
 | k+1=>Nat.xor_lt_two_pow (n:=8) (zC hb k) (zB (hb k))
theorem QY(a b:Nat->Nat)(w:Wd)(ha:aQ a)(hb:aQ b):Wc 264 #[.agg (arr 4 (c8 a)).toArray,.agg (arr 4 (c8 b)).toArray] w (Rt w (.int .u8 (MT a b:Nat))):=by
 have HA:=jz ha;have Z:=jz hb;clear ha hb;go_enter func264,ntmps264
 go_upto_region 2 with fail
 obtain⟨g,hg⟩:=je w.heap.size;obtain⟨w1,K⟩:=je ((w.alloc (.cells (arr 4 (c8 a)).toArray 358)).alloc (.cells (arr 4 (c8 b)).toArray 358));have I:Hid (AB w1 g 358 4 (c8 a)/\AB w1 (g+1) 358 4 (c8 b)/\Bw w w1):=jz (by
  rw[K,hg]
  exact⟨(Blk.new _ _ _).alloc _,Blk.newAt _ _ _ _ (by simp),((ji _ w).alloc (ja _) _).alloc (by simp) _⟩)
 rw[<- K];simp only[World.size_alloc,<- hg];clear K hg;go_wp2_with fail
 go_loopw [7,5] (λi x wr=>∃ k:Nat,k<=4/\i = .int .i64 (k:Int)/\x = .int .u8 (JQ a b k:Nat)/\Hid (AB wr g 358 4 (c8 a)/\AB wr (g+1) 358 4 (c8 b)/\Bw w wr)) (λi _ _=>4-(intOf i).toNat)
 case atStart=>exact⟨0,j0 _,rfl,rfl,I⟩
 case round=>
  clear I;obtain⟨k,hk,rfl,rfl,I⟩:=hrel;rcases jo k 4 with O|a2
  ·have a3:(0:Int)<=k:=by omega
   have a4:(k:Int)<4:=by omega
   obtain⟨y,hy⟩:=je (JQ a b k);have a0:y<256:=by rw[hy];exact zC Z k
   rw[<- hy];obtain⟨z,U⟩:=je (mB (b k) (a k));have a1:z<256:=by rw[U];exact zB (Z k)
   have HN:Hid (JQ a b (k+1)=y ^^^ z):=jz (by rw[hy,U];rfl);have a7:=u8_xor_nat y z a0 a1;have HZ:=jz U;clear hy U;go_upto_region 5 with fail
   obtain⟨V,D⟩:=je wr.drew;have J:Hid (AB V g 358 4 (c8 a)/\AB V (g+1) 358 4 (c8 b)/\Bw w V):=jz (by rw[D];exact⟨I.out.1,I.out.2.1,I.out.2.2.drew⟩);clear I;refine kZ (n:=10) (λW=>AB W g 358 4 (c8 a)/\AB W (g+1) 358 4 (c8 b)/\Bw w W) (by rw[<- D];exact J) (h:=λhH=>?_);rw[<- D] at hH ⊢;clear D;refine qM 0 (.int .u8 (y:Nat)) ?_;refine qM 1 (.int .i64 k) ?_;refine qT 2 (.pointer (some ⟨g+1,k,none⟩)) ?_;refine qC 3 (v:=.int .u8 (b k:Nat)) (λW hX=>hX.2.1.cell (i:=k) O) ?_;refine qM 4 (.int .i64 k) ?_;refine qT 5 (.pointer (some ⟨g,k,none⟩)) ?_;refine qC 6 (v:=.int .u8 (a k:Nat)) (λW hX=>hX.1.cell (i:=k) O) ?_;refine kF 7 (some 17) ((rU (b k) (a k) V (Z k) (HA k)).mono ?_);rintro e w2 ⟨rfl,R⟩;rw[R,<- HZ.out];clear R w2;refine⟨_,rfl,J,λhH=>?_⟩;simp only[jq];refine qT 8 (.int .u8 (y ^^^ z:Nat)) ?_;refine qT 9 (.int .u8 (y ^^^ z:Nat)) ?_;refine kE (h:=?_);go_wp2_with fail
   exact⟨⟨k+1,by omega,by go_num,by rw[HN.out],J⟩,by simp[intOf];omega⟩
  ·have a5:k=4:=by omega
   have a6:¬(k:Int)<4:=by omega
   go_wp2_with fail
   go_ret;exact⟨rfl,I.out.2.2⟩
end Go.Proofs.YtjjlaipkkdncfaaGreatDoor
