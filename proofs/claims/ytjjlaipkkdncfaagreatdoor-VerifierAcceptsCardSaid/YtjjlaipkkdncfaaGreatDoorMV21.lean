import Derived.Test.YtjjlaipkkdncfaaGreatDoorMV20
import Derived.Test.YtjjlaipkkdncfaaGreatDoorMV19
import Derived.OrdersIn
import Derived.Lib.ItoaNum
import Derived.Lib.ItoaMem
import Derived.IntWalk
import Derived.OneCell
import Derived.Laws.BitsLemmas
set_option linter.unusedVariables false
set_option linter.unusedSimpArgs false
set_option maxRecDepth 100000
set_option maxHeartbeats 40000000
namespace Go.Proofs.YtjjlaipkkdncfaaGreatDoor
open Go.Proofs.Tryz
section
set_option maxRecDepth 100000
open Go.RowKit
theorem J4{w w':Wd}{base e s n:Nat}{v:Value}{J:Wv}{r:Nat}(h:w.ownsRow base e s v n J)(hg:w.grownBy w' (some r))(R:r<base):w'.ownsRow base e s v n J:=by
 refine⟨h.1,?_⟩;have I:=h.lt;rcases h.2 with K|⟨g,cap,D,rfl,hb,O,k⟩
 ·exact .inl K
 ·exact .inr ⟨g,cap,D,rfl,hb,by rw[hg.block g (I g rfl).2 (λe=>by injection e with e;omega)];exact O,k⟩
theorem NP(g b n c:Nat)(f:Wl->Option Int)(now:Int)(w:Wd)(h:IX w g b n f c)(hn:n<=1000):
  Wc 59 #[.pointer (some ⟨g,0,none⟩),.int .i64 now] w λe w'=>∃(v:Value) (L:List (Wl×Int)),e = .returned v/\Sn w' 33 v L.length (L.flatMap aO)/\(∀ p:Wl×Int,p∈L ↔ EntOk p/\f p.1=some p.2/\now<=p.2)/\L.Pairwise (λp q=>dJ p q<0)/\Bw w w'/\L.length<=c/\∀ b,v.ownBlock=some b->w.heap.size<=b/\b<w'.heap.size:=by
 obtain⟨hg,f0,hm⟩:=h;have hc:=hm.le;go_enter func59,ntmps59
 go_wp2_with (at_range;refine MM underlying149 rfl _ rfl rfl hm ?_;intro w1 b1 O f3)
 simp only[jq];have d3:Bw w w1:=⟨O.os,O.tape,O.output,O.size,λk hk=>O.block k hk (by simp)⟩;have e2:=hm.lt;have e3:=eQ hg;go_loopw [5] (λm wr=>∃(M:List (Wl×Int)) (cnt:Nat) (left:Wl->Bool),wr.ownsRow (w.heap.size+1) 26 33 m M.length (M.flatMap aO)/\DR wr b w.heap.size n f c left cnt/\Bw w wr/\Hid (∀ p:Wl×Int,p∈M ↔ EntOk p/\f p.1=some p.2/\now<=p.2/\left p.1=false)/\M.length+cnt<=c/\M.Nodup) (λ_ wr=>wr.rangeLeft b w.heap.size)
 case atStart=>exact⟨[],c,_,World.ownsRow_nil _ _ _ _,b1,d3,jz (λp=>by
  constructor
  ·intro h;simp at h
  ·rintro⟨_,h,_,h'⟩;rw[h] at h';simp at h'),by simp,List.nodup_nil⟩
 case round=>
  obtain⟨M,cnt,left,I,hR,hb,HM,e7,a8⟩:=hrel;have f1:=j9 hb hg;have a4:=jz hR.left_eq;have e6:=hb.size;have e1:=hR.lt;go_wp2_with (at_next;refine TI rfl _ rfl rfl hR ?_ ?_)
  ·intro h0 b3;have d1:Hid (∀ p∈M,EntOk p):=jz λp hp=>((HM p).1 hp).1
   have d2:M.length<=1000:=by omega
   go_wp2_with fail
   refine(NL (w.heap.size+1) M.length u5 M wr rfl I d1 d2 (by omega)).mono ?_;rintro e w2 ⟨rfl,L,J,a0,d7,b7⟩;go_wp2_with fail
   go_ret;have c5:L.Nodup:=J.nodup_iff.2 a8;refine⟨_,L,rfl,d7,λp=>?_,?_,hb.trans (b7.mono (Nat.le_succ _)),by have:=J.length_eq;omega,λb e=>⟨by have:=(I.lt b e).1;omega,jp (I.lt b e).2 b7.size⟩⟩
   ·rw[J.mem_iff,HM.out p];constructor
    ·rintro⟨k1,k2,k3,_⟩;exact⟨k1,k2,k3⟩
    ·rintro⟨k1,k2,k3⟩;exact⟨k1,k2,k3,b3 p.1 k1.dig⟩
   ·refine(a0.and c5).imp λ{p q} h=>?_
    have f2:dJ p q≠0:=λe=>h.2 ((fP p q).1 e)
    have:=h.1;omega
  ·intro d t w2 a2 hd e0 hl a7 a5 V R c7 e8;have h1:=dL d;have d0:=xK d t hd.len;have hent:=jH hd t;have b9:=JD d t hd;have c2:=lK;have K:(u8s d).length=32:=by simp[u8s,hd.len]
   have a6:Bw w w2:=⟨R.os.trans hb.os,R.tape.trans hb.tape,R.output.trans hb.output,by omega,λi hi=>(R.block i (by omega) (λe=>by injection e with e;omega)).trans (hb.block i hi)⟩;have e4:=j9 a6 hg;have Z:w2.ownsRow (w.heap.size+1) 26 33 _ M.length (M.flatMap aO):=J4 I R (by simp);have b0:=jz c7;have a1:=jz V;clear hR b1 V c7 I;rcases jb (decide (now<=t)) with t1|t1
   ·go_wp2_with (first
     | (refine bQ 24 (.tmp 6) (.tmp 18) rfl rfl rfl rfl (by simp only[js,K];kernel_rfl) (by simp only[js,K] <;> rfl) h1 ?_;intro w3 a3 D c9;have c6:=Blk.range a3;rw[jt] at c6;have hoA:=aE (aE Z D) (TT (ji _ w3) (.cells (cS d t).toArray 26));have hnA:=Sn.new w3 (cS d t).toArray 26 33 1 (by simp[hent]);have e5:w.heap.size+2<=w3.heap.size:=(by have:=b0.out;omega);clear c9)
     | (refine ld 24 _ rfl rfl rfl c6 underlying24 rfl (by rw[K];kernel_rfl) ?_)
     | (at_builtin;refine app V7 (.tmp 23) (.tmp 27) rfl rfl (v:=u5) rfl hoA rfl hnA (λu hu=>by have:=gO d t;simp only[List.all_toArray,List.all_eq_true] at this;exact this u (by simpa using hu)) (by unfold maxLen;omega) (by omega) (by simp;omega) ?_;intro v4 w4 a9 c4 _))
    have d5:Bw w (w3.alloc (.cells (cS d t).toArray 26)):=(aB a6 D).alloc (by omega) _;have d4:Bw w w4:=d5.grown c4 (by simp;omega) (λg hg=>by have:=(hoA.lt g hg).1;omega);have U:∀ k,k<=w.heap.size->w4.heap[k]? = w2.heap[k]?:=λk hk=>by
     rw[c4.block k (by simp;omega) (λe=>by have:=(hoA.lt k e.symm).1;omega),Below.heap_alloc _ _ _ (by omega),D.block k (by have:=b0.out;omega)]
    have b2:=a5.of_blocks (U b (by omega)) (U w.heap.size (ja _));have V:=of_decide_eq_true t1;refine⟨⟨M++[(d,t)],a2,_,by rw[jj,List.flatMap_append];simpa [aO] using a9,b2,d4,jz λp=>?_,by have:=a1.out;simp only[jj,List.length_cons,List.length_nil];omega,?_⟩,?_⟩
    ·rw[ju,HM.out p];have c3:=a7;constructor
     ·rintro(⟨k1,k2,k3,k4⟩|h)
      ·exact⟨k1,k2,k3,by simp[k4]⟩
      ·obtain rfl:p=(d,t):=by simpa using h
       exact⟨⟨hd,e0⟩,a7,V,by simp⟩
     ·rintro⟨k1,k2,k3,k4⟩;by_cases hpd:p.1=d
      ·refine .inr ?_;rw[hpd,c3] at k2;injection k2 with k2
       have:p=(d,t):=Prod.ext hpd k2.symm;simp[this]
      ·exact .inl ⟨k1,k2,k3,by simpa [hpd] using k4⟩
    ·refine List.nodup_append.2 ⟨a8,by simp,λx hx y hy=>?_⟩;obtain rfl:y=(d,t):=by simpa using hy
     rintro rfl;have:=((HM _).1 hx).2.2.2;rw[hl] at this;cases this
    ·rw[a4.out,b2.left_eq];exact a1.out
   ·go_wp2_with (refine bQ 24 (.tmp 6) (.tmp 18) rfl rfl rfl rfl (by simp only[js,K];kernel_rfl) (by simp only[js,K] <;> rfl) h1 ?_;intro w3 a3 D c9)
    refine⟨⟨M,a2,_,aE Z D,a5.keep D,aB a6 D,jz λp=>?_,by have:=a1.out;omega,a8⟩,?_⟩
    ·have V:=of_decide_eq_false t1;rw[HM.out p];constructor
     ·rintro⟨k1,k2,k3,k4⟩;exact⟨k1,k2,k3,by simp[k4]⟩
     ·rintro⟨k1,k2,k3,k4⟩;refine⟨k1,k2,k3,?_⟩;by_cases hpd:p.1=d
      ·rw[hpd] at k2;rw[a7] at k2;injection k2 with k2
       omega
      ·simpa [hpd] using k4
    ·rw[a4.out,(a5.keep D).left_eq];exact a1.out
end
section
open Go.RowKit
section
variable {P : Program} {ops : Array Oper} {Q : Exit -> Act -> Wd -> Prop} {S : Wd -> Prop} {a : Act} {w : Wd} {l m : Nat}
theorem V9{o:Oper}{K:Act->Wd->Prop}{r:Result Next}(h:o.upon P a K Q r):o.uponIn (Fence.wide.inRound l) m P a K Q r:=by
 cases r with
 | ok x w'=>
  cases x with
  | enter f args=>exact⟨(λe=>by cases e),CallsIn.inRound l (callsIn_wide.2 h)⟩
  | row row args=>exact⟨(λe=>by cases e),λc cs _=>let ⟨v,w2,r,s⟩:=h c cs;⟨v,w2,r,stepsIn_wide.2 s⟩⟩
  | _=>first|exact h|exact h.elim
 | halt x w'=>cases x <;> first|exact h|exact h.elim
theorem WA{o:Oper}{K:Act->Wd->Prop}(hd:∀ c,o.op≠.defer c)(h:o.wp P a w K Q):o.wpIn (Fence.wide.inRound l) m P a w K Q:=by
 refine⟨λf _=>trivial,?_⟩;rw[Oper.semAt_eq _ _ _ hd];exact V9 h
def zN(ops:Array Oper):Bool:=ops.all λo=>match o.op with
 | .defer _=>false
 | _=>true
theorem RK(hd:zN ops=true)(I:¬LetsOut Q):∀(fuel:Nat) (listed:Array Bool) (a:Act) (w:Wd),wpAny P .any ops Q fuel listed a w->wpAnyIn (Fence.wide.inRound l) m P .any ops Q fuel listed a w
 | 0,_,_,_,h=>h
 | fuel+1,listed,a,w,h=>by
  refine⟨h.1,λi hi=>?_⟩;have D:=h.2 i hi;unfold wpOp at D;unfold wpOpIn;cases ho:ops[i]? with
  | none=>
   rw[ho] at D;exact RK hd I fuel _ _ _ D
  | some o=>
   rw[ho] at D;simp only at D ⊢;have J:∀ c,o.op≠.defer c:=λc e=>by
    unfold zN at hd;have O:=Array.all_eq_true_iff_forall_mem.1 hd o (Array.mem_of_getElem? ho);rw[e] at O;cases O
   split
   ·rename_i K;rw[jP K] at D;rcases D with D|D
    ·exact Oper.wpIn_mono (λa w h=>RK hd I fuel _ a w h) (WA J D)
    ·exact absurd D.2 I
   ·rename_i K;rw[jQ K] at D;exact⟨λf _=>trivial,RK hd I fuel _ _ _ D⟩
theorem kZr{n:Nat}(S:Wd->Prop){K:Nat}(hS:S w.drew)(D:¬LetsOut Q)(I:P.follows .mixedOrders=true:=by kernel_rfl)(J:ops.size=n:=by kernel_rfl)(hd:zN ops=true:=by kernel_rfl)
  (h:S w.drew->wpAnyH P .any ops Q S n (Array.replicate n false) a w.drew):(Code.region K ops true).wpIn (Fence.wide.inRound l) m P Q a w:=by
 subst J;exact wpIn_region_any I (RK hd D _ _ _ _ (wpAny_of_held _ _ _ _ (h hS)))
end
end
section
open Go.RowKit
end
section
abbrev Bs:=List UInt8
structure OpD where
 kind:Int
 n:Int
 data:Bs
 cuts:Wl
def split(c:UInt8):Bs->List Bs
 | []=>[[]]
 | x :: s=>if x=c then [] :: split c s else (x :: (split c s).headD []) :: (split c s).tail
end
section
open Go.RowKit
attribute [local irreducible] wpQuiet wpAnyH
def e9(a b:Int):Int:=if a+b>9223372036854775807 then 9223372036854775807 else if a+b < -9223372036854775808 then -9223372036854775808 else a+b
theorem uW(a b:Int):aI (e9 a b):=by unfold e9 aI;split <;> (try split) <;> omega
theorem RL{a b:Int}(h:a=b):Ending.returned (.int .i64 a) = .returned (.int .i64 b):=by rw[h]
def WB(w:Wd)(g:Nat)(z:Int)(w':Wd):Prop:=w'=w.setCell ⟨g,0,none⟩ (.int .i64 z)
theorem NQ(a b:Int)(g:Nat)(t:TypeId)(w:Wd)(ha:aI a)(hb:aI b)(J:Blk w g t #[.int .i64 a]):
  Wc 72 #[.int .i64 b,.pointer (some ⟨g,0,none⟩)] w λe w'=>e = .returned (.tuple #[])/\WB w g (e9 a b) w':=by
 have hc:=J.cell 0;have hf:=J.frozen 0;simp only[jf,jg] at hc;obtain⟨s,hs⟩:∃ s,wrap64 (a+b)=s:=⟨_,rfl⟩;have D:(-9223372036854775808<=a+b/\a+b<=9223372036854775807/\s=a+b)\/(9223372036854775807<a+b/\s=a+b-18446744073709551616)\/(a+b < -9223372036854775808/\s=a+b+18446744073709551616):=by
  rw[<- hs];unfold aI at ha hb;unfold wrap64;omega
 have HW:=jz D;have HA:=jz ha;have I:=jz hb;clear D ha hb J;have U:e9 a b=if 9223372036854775807<a+b then 9223372036854775807 else if a+b < -9223372036854775808 then -9223372036854775808 else a+b:=rfl
 have HQ:=jz U;clear U;rcases jb (decide (0<=a)) with K|K <;> rcases jb (decide (0<=b)) with O|O <;> rcases jb (decide (s<0)) with R|R
 all_goals
  have V:decide (a<0) = !decide (0<=a):=by by_cases h:0<=a <;> simp[h] <;> omega
  have Z:decide (b<0) = !decide (0<=b):=by by_cases h:0<=b <;> simp[h] <;> omega
  have n3:decide (0<=s) = !decide (s<0):=by by_cases h:0<=s <;> simp[h] <;> omega
  rw[K] at V;rw[O] at Z;rw[R] at n3;simp only[Bool.not_true,Bool.not_false] at V Z n3;go_enter func72,ntmps72
  go_wp2_with fail
  go_end0
  refine⟨rfl,?_⟩;unfold WB;rw[HQ.out];have h1:=HW.out;have h2:=HA.out;have h3:=I.out;unfold aI at h2 h3;simp only[decide_eq_true_eq,decide_eq_false_iff_not] at K O R
  first
   | (rw[jP (by omega)])
   | (rw[jQ (by omega),jP (by omega)])
   | (rw[jQ (by omega),jQ (by omega)];congr 2;omega)
theorem zO(a b:Int)(v:Value)(w:Wd)(ha:aI a)(hb:aI b)(hs:Sl w v [.int .i64 b]):
  Wc 47 #[.int .i64 a,v] w (Rt w (.int .i64 (e9 a b))):=by
 obtain⟨A,cap,rfl,R,hx⟩:=hs;obtain⟨bk,off,rfl,I⟩:=hx (by simp);have J:=I 0 _ rfl;have U:=eQ J;simp only[List.length_cons,List.length_nil,Nat.zero_add,Nat.add_zero] at J R U ⊢;have HA:=jz ha;have HB:=jz hb;have HC:=jz J;clear I hx ha hb J;go_enter func47,ntmps47
 go_wp2_with fail
 go_loopw [11] (λi wr=>∃ k:Nat,k<=1/\i = .int .i64 k/\Blk wr w.heap.size 2 #[.int .i64 (if k=0 then a else e9 a b)]/\Bw w wr) (λi _=>1-(intOf i).toNat)
 case atStart=>exact⟨0,by omega,rfl,Blk.new _ _ _,(ji _ _).alloc (ja _) _⟩
 case round=>
  obtain⟨k,hk,rfl,K,D⟩:=hrel;rcases jo k 1 with Z|a0
  ·obtain rfl:k=0:=by omega
   rw[jP rfl] at K;have V:=j9 (w:=w) (w':=wr) ⟨D.os,D.tape,D.output,D.size,D.block⟩ HC.out;have HBl:=jz K;have O:=jz D;clear K D;go_wp2_with (go_at_call 72;refine(NQ a b w.heap.size _ wr HA HB HBl).mono ?_;rintro e w' ⟨rfl,rfl⟩)
   exact⟨⟨1,by omega,by go_num,by rw[jQ (by omega)];exact HBl.set_ 0 _,O.out.setCell (ja _) _⟩,by simp[intOf]⟩
  ·obtain rfl:k=1:=by omega
   rw[jQ (by omega)] at K;have V:=K.cell 0;simp only[jf,jg] at V;go_wp2_with fail
   go_ret;exact⟨rfl,D⟩
end
section
def twR(x:Nat):Nat:=if 255<2*x then (2*x) ^^^ 283 else 2*x
theorem UD:∀ x,x<256->twR x=xt x:=by decide +kernel
theorem E6{x:Nat}(h:x<256):twR x<256:=by rw[UD x h];exact B9 h
theorem mX:∀ x,x<256->mB x 2=twR x/\mB x 3=twR x ^^^ x/\mB x 1=x:=by decide +kernel
theorem RM{g:Nat->Nat}(h:aQ g):MT nmR g=twR (g 0) ^^^ twR (g 1) ^^^ g 1 ^^^ g 2 ^^^ g 3:=by
 show(((0 ^^^ mB (g 0) 2) ^^^ mB (g 1) 3) ^^^ mB (g 2) 1) ^^^ mB (g 3) 1=_;rw[(mX _ (h 0)).1,(mX _ (h 1)).2.1,(mX _ (h 2)).2.2,(mX _ (h 3)).2.2,Nat.zero_xor,<- Nat.xor_assoc]
def wV(a b:Nat):Nat->Nat
 | 0=>0
 | i+1=>if b/2 ^ i % 2=1 then wV a b i ^^^ (a*2 ^ i) else wV a b i
def qS(p:Nat):Nat->Nat
 | 0=>p
 | k+1=>if qS p k/2 ^ (14-k) % 2=1 then qS p k ^^^ (283*2 ^ (6-k)) else qS p k
def E7(a b:Nat):Nat:=qS (wV a b 8) 7 % 256
def oJ(b i:Nat):Nat:=b/2 ^ i % 2
def E8(b i:Nat):Nat:=(oJ 99 i+oJ b i+oJ b ((i+4) % 8)+oJ b ((i+5) % 8)+oJ b ((i+6) % 8)+oJ b ((i+7) % 8)) % 2
def uX(b:Nat):Nat->Nat
 | 0=>0
 | i+1=>uX b i+E8 b i*2 ^ i
def oK(b:Nat):Nat:=uX b 8 % 256
def pwA:Nat->Nat
 | 0=>1
 | i+1=>E7 (pwA i) 3
def powL:List Nat:=[1,3,5,15,17,51,85,255,26,46,114,150,161,248,19,53,95,225,56,72,216,115,149,164,247,2,6,10,30,34,102,170,229,52,92,228,55,89,235,38,106,190,217,112,144,171,230,49,83,245,4,12,20,60,68,204,79,209,104,184,211,110,178,205,76,212,103,169,224,59,77,215,98,166,241,8,24,40,120,136,131,158,185,208,107,189,220,127,129,152,179,206,73,219,118,154,181,196,87,249,16,48,80,240,11,29,39,105,187,214,97,163,254,25,43,125,135,146,173,236,47,113,147,174,233,32,96,160,251,22,58,78,210,109,183,194,93,231,50,86,250,21,63,65,195,94,226,61,71,201,64,192,91,237,44,116,156,191,218,117,159,186,213,100,172,239,42,126,130,157,188,223,122,142,137,128,155,182,193,88,232,35,101,175,234,37,111,177,200,67,197,84,252,31,33,99,165,244,7,9,27,45,119,153,176,203,70,202,69,207,74,222,121,139,134,145,168,227,62,66,198,81,243,14,18,54,90,238,41,123,141,140,143,138,133,148,167,242,13,23,57,75,221,124,132,151,162,253,28,36,108,180,199,82,246,1]
def qU:Nat->Nat->Nat
 | 0=>aY (λ_=>0) 0 (oK 0)
 | i+1=>aY (qU i) (pwA i) (oK (pwA (255-i)))
theorem J5:∀ i,i<255->powL.getD (i+1) 0=E7 (powL.getD i 0) 3:=by decide +kernel
theorem CQ:powL.length=256:=by decide +kernel
theorem zP:∀ i,i<256->pwA i=powL.getD i 0
 | 0,_=>rfl
 | i+1,h=>by
  show E7 (pwA i) 3=_;rw[zP i (by omega),J5 i (by omega)]
theorem RN:∀ i,i<256->oK (powL.getD (255-i) 0)=bO (powL.getD i 0):=by decide +kernel
theorem NR:oK 0=bO 0:=by decide +kernel
theorem NS:∀ k,k<256->k=0\/k∈powL:=by decide +kernel
theorem IA:∀ n,n<=256->∀ k,qU n k=if k=0\/k∈powL.take n then bO k else 0
 | 0,_,k=>by
  show aY (λ_=>0) 0 (oK 0) k=_;unfold aY;by_cases h:k=0
  ·rw[jP h,jP (.inl h),h,NR]
  ·rw[jQ h,jQ (by simp[h])]
 | n+1,hn,k=>by
  have J:n<powL.length:=by rw[CQ];omega
  have I:powL.getD n 0=powL[n]:=by rw[jn,List.getElem?_eq_getElem J];rfl
  have ih:=IA n (by omega) k;show aY (qU n) (pwA n) (oK (pwA (255-n))) k=_;rw[zP n (by omega),zP (255-n) (by omega),RN n (by omega),j6 J];unfold aY;by_cases h:k=powL.getD n 0
  ·rw[jP h,jP (.inr (List.mem_append.2 (.inr (by rw[h,I];exact List.mem_singleton.2 rfl)))),h]
  ·rw[jQ h,ih];by_cases h2:k=0\/k∈powL.take n
   ·rw[jP h2,jP (h2.imp id (λh=>List.mem_append.2 (.inl h)))]
   ·rw[jQ h2,jQ (λK=>h2 (K.imp id (λO=>by
     rcases List.mem_append.1 O with D|D
     ·exact D
     ·exact absurd ((List.mem_singleton.1 D).trans I.symm) h)))]
theorem NT(k:Nat)(h:k<256):qU 256 k=bO k:=by
 rw[IA 256 (ja _),jP ((NS k h).imp id (λh=>by rw[List.take_of_length_le (by rw[CQ];exact ja _)];exact h))]
theorem IB(bf:Nat->Nat)(pw:Nat):∀(n j:Nat),n<=j->j<4->i4 bf pw n j=CJ bf pw j
 | 0,j,_,_=>rfl
 | n+1,j,h,hj=>by
  show aY (i4 bf pw n) (n % 4) (i4 bf pw n (n % 4) ^^^ bf n) j=_;unfold aY;rw[jQ (by omega),IB bf pw n j (by omega) hj]
theorem x6(bf:Nat->Nat)(pw n j:Nat):∀ d,d<4->j % 4=n % 4->i4 bf pw (n+1+d) (j % 4)=i4 bf pw (n+1) (j % 4)
 | 0,_,_=>rfl
 | d+1,hd,h=>by
  show aY (i4 bf pw (n+1+d)) ((n+1+d) % 4) _ (j % 4)=_;unfold aY;rw[jQ (by omega),x6 bf pw n j d (by omega) h]
theorem UE(key:Nat->Nat)(m j:Nat)(h:j<4):kyF key (m+1) j=CJ (kyF key m) (pwr m) j ^^^ kyF key m j:=by
 show i4 (kyF key m) (pwr m) j (j % 4) ^^^ kyF key m j=_;rw[Nat.mod_eq_of_lt h,IB _ _ j j (ja _) h]
theorem UF(key:Nat->Nat)(m j:Nat)(h:4<=j):kyF key (m+1) j=kyF key (m+1) (j-4) ^^^ kyF key m j:=by
 obtain⟨i,rfl⟩:∃ i,j=i+4:=⟨j-4,by omega⟩;show i4 (kyF key m) (pwr m) (i+4) ((i+4) % 4) ^^^ kyF key m (i+4)=nk (kyF key m) (pwr m) (i+4-4) ^^^ kyF key m (i+4);congr 1;have D:=x6 (kyF key m) (pwr m) i i 3 (by omega) rfl;have I:(i+4) % 4=i % 4:=by omega
 rw[I,show i+4=i+1+3 by omega,D,show i+1+3-4=i by omega];show aY (i4 (kyF key m) (pwr m) i) (i % 4) (i4 (kyF key m) (pwr m) i (i % 4) ^^^ kyF key m i) (i % 4)=_;unfold aY;rw[jP rfl];rfl
def kcR(key:Nat->Nat)(i r:Nat):Nat:=kyF key (i/4) (4*(i % 4)+r)
theorem J6(key:Nat->Nat)(i r:Nat)(hi:i<4):kcR key i r=key (4*i+r):=by
 unfold kcR;rw[show i/4=0 by omega,show i % 4=i by omega];rfl
theorem NU(key:Nat->Nat)(i r:Nat)(J:4<=i)(h:i % 4=0)(I:r<4):kcR key i r=kcR key (i-4) r ^^^ (if r=0 then bO (kcR key (i-1) 1) ^^^ pwr (i/4-1) else if r=1 then bO (kcR key (i-1) 2) else if r=2 then bO (kcR key (i-1) 3) else bO (kcR key (i-1) 0)):=by
 obtain⟨m,D⟩:∃ m,i/4=m+1:=⟨i/4-1,by omega⟩;unfold kcR;rw[D,show(i-4)/4=m by omega,show(i-1)/4=m by omega,show(i-1) % 4=3 by omega,show(i-4) % 4=0 by omega,h,show 4*0+r=r by omega,UE key m r I,Nat.xor_comm,show m+1-1=m by omega];rfl
theorem UG(key:Nat->Nat)(i r:Nat)(I:4<=i)(h:i % 4≠0):kcR key i r=kcR key (i-4) r ^^^ kcR key (i-1) r:=by
 obtain⟨m,D⟩:∃ m,i/4=m+1:=⟨i/4-1,by omega⟩;unfold kcR;rw[D,show(i-4)/4=m by omega,show(i-1)/4=m+1 by omega,show(i-4) % 4=i % 4 by omega,UF key m _ (by omega),show 4*(i % 4)+r-4=4*((i-1) % 4)+r by omega,Nat.xor_comm]
end
section
open Go.RowKit
attribute [local irreducible] wpQuiet wpAnyH
theorem bY(n:Int)(D:0<=n)(h1:n<2 ^ 62):IntKind.i64.wrap n=n:=by rw[IntKind.wrap_i64];omega
theorem mY(x:Nat)(h:x<4611686018427387904):bits .and .i64 (x:Int) 1=((x % 2:Nat):Int):=by
 have:=(bits_nat .i64 62 (by decide) bY x 1 (by omega) (by decide)).1;rw[Nat.and_one_is_mod] at this;exact this
theorem uY(a b:Nat)(ha:a<4611686018427387904)(hb:b<4611686018427387904):bits .xor .i64 (a:Int) (b:Int)=((a ^^^ b:Nat):Int):=by
 have D:a ^^^ b<2 ^ 62:=Nat.xor_lt_two_pow (by omega) (by omega);have o:∀ n:Nat,n<4611686018427387904->(BitVec.ofInt 64 (n:Int)).toNat=n:=λn I=>by
  rw[BitVec.ofInt_natCast,BitVec.toNat_ofNat];exact Nat.mod_eq_of_lt (by omega)
 show IntKind.i64.wrap ((BitVec.ofInt 64 (a:Int) ^^^ BitVec.ofInt 64 (b:Int)).toNat:Int)=_;rw[BitVec.toNat_xor,o a ha,o b hb];exact bY _ (Int.natCast_nonneg _) (by exact_mod_cast D)
theorem tB{i:Nat}(h:i<=7):2 ^ i<=128:=by have:=Nat.pow_le_pow_right (n:=2) (by omega) h;exact this
theorem zQ{a b:Nat}(ha:a<256):∀ i,i<=8->wV a b i<65536
 | 0,_=>by show 0<65536;omega
 | i+1,h=>by
  have ih:=zQ (b:=b) ha i (by omega);have I:=tB (i:=i) (by omega);have D:a*2 ^ i<65536:=Nat.lt_of_le_of_lt (Nat.mul_le_mul (show a<=255 by omega) I) (by omega);show(if _ then _ else _)<65536;split
  ·exact Nat.xor_lt_two_pow (n:=16) ih D
  ·exact ih
theorem zR{p:Nat}(D:p<65536):∀ k,k<=7->qS p k<65536
 | 0,_=>D
 | k+1,h=>by
  have ih:=zR D k (by omega);have K:=tB (i:=6-k) (by omega);have I:2 ^ (6-k)<=64:=by have:=Nat.pow_le_pow_right (n:=2) (by omega) (show 6-k<=6 by omega);exact this
  have J:283*2 ^ (6-k)<65536:=Nat.lt_of_le_of_lt (Nat.mul_le_mul (ja 283) I) (by omega);show(if _ then _ else _)<65536;split
  ·exact Nat.xor_lt_two_pow (n:=16) ih J
  ·exact ih
theorem NV(b i:Nat):(b:Int)/2 ^ i=((b/2 ^ i:Nat):Int):=by
 rw[Int.natCast_ediv,Int.natCast_pow];rfl
theorem UH(a i:Nat):(a:Int)*2 ^ i=((a*2 ^ i:Nat):Int):=by
 rw[Int.natCast_mul,Int.natCast_pow];rfl
theorem NW(a b:Nat)(w:Wd)(ha:a<256)(hb:b<256):
  Wc 236 #[.int .u8 a,.int .u8 b] w λe w'=>e = .returned (.int .u8 (E7 a b:Nat))/\w=w':=by
 go_enter func236,ntmps236
 go_wp2_with fail
 go_loopw [5,6] (λp i wr=>∃ k:Nat,k<=8/\i = .int .i64 (k:Int)/\p = .int .i64 (wV a b k:Nat)/\w=wr) (λ_ i _=>8-(intOf i).toNat)
 case atStart=>exact⟨0,j0 _,rfl,rfl,rfl⟩
 case round=>
  obtain⟨k,hk,rfl,rfl,rfl⟩:=hrel;rcases jo k 8 with a9|a4
  ·have a5:(0:Int)<=k:=by omega
   have a6:(k:Int)<8:=by omega
   have a2:=tB (i:=k) (by omega);obtain⟨x,J⟩:=je (b/2 ^ k);have b1:x<256:=by rw[J];exact Nat.lt_of_le_of_lt (Nat.div_le_self _ _) hb
   have s1:=NV b k;rw[<- J] at s1;have K:=mY x (by omega);have hM:=zQ (b:=b) ha k (by omega);have D:wV a b (k+1)=if b/2 ^ k % 2=1 then wV a b k ^^^ (a*2 ^ k) else wV a b k:=rfl
   rw[<- J] at D;obtain⟨p,hp⟩:=je (wV a b k);rw[<- hp] at hM D ⊢;obtain⟨z,V⟩:=je (a*2 ^ k);have b2:z<65536:=by rw[V];exact Nat.lt_of_le_of_lt (Nat.mul_le_mul (show a<=255 by omega) a2) (by omega)
   have s2:=UH a k;rw[<- V] at s2 D;have s3:=bY (z:Int) (by omega) (by omega);have q2:=uY p z (by omega) (by omega);obtain⟨u,hu⟩:=je (p ^^^ z);rw[<- hu] at q2 D;have HM:=jz D;clear J hp V hu D a2;rcases Nat.mod_two_eq_zero_or_one x with I|I
   ·rw[I] at K;have R:=jz I;clear I;simp only[Int.cast_ofNat_Int] at K;go_wp2_with fail
    exact⟨⟨k+1,by omega,by go_num,by rw[HM.out,R.out,jQ (by omega)],by first|rfl|trivial⟩,by simp[intOf];omega⟩
   ·rw[I] at K;have R:=jz I;clear I;simp only[Int.cast_ofNat_Int] at K;go_wp2_with fail
    exact⟨⟨k+1,by omega,by go_num,by rw[HM.out,R.out,jP rfl],by first|rfl|trivial⟩,by simp[intOf];omega⟩
  ·have a8:k=8:=by omega
   subst a8;have hP:=zQ (b:=b) ha 8 (by omega);obtain⟨O,U⟩:=je (wV a b 8);have a3:=jz U;rw[<- U] at hP ⊢;clear U;go_wp2_with fail
   go_loopw [5,7] (λp i wr=>∃ k:Nat,k<=7/\i = .int .i64 (14-(k:Int))/\p = .int .i64 (qS O k:Nat)/\w=wr) (λ_ i _=>((intOf i)-7).toNat)
   case atStart=>exact⟨0,j0 _,rfl,rfl,rfl⟩
   case round=>
    obtain⟨k,hk,rfl,rfl,rfl⟩:=hrel;rcases jo k 7 with a9|a4
    ·obtain⟨i,hi⟩:∃ i,i=14-k:=⟨_,rfl⟩;obtain⟨j,hj⟩:∃ j,j=6-k:=⟨_,rfl⟩;have a0:14-(k:Int)=(i:Int):=by omega
     rw[a0];have b3:(i:Int)-8=(j:Int):=by omega
     have a5:(8:Int)<=i:=by omega
     have a6:(i:Int)<=14:=by omega
     have a1:(i:Int)-1=14-((k+1:Nat):Int):=by omega
     have hM:=zR hP k (by omega);have D:qS O (k+1)=if qS O k/2 ^ (14-k) % 2=1 then qS O k ^^^ (283*2 ^ (6-k)) else qS O k:=rfl
     rw[<- hi,<- hj] at D;obtain⟨p,hp⟩:=je (qS O k);rw[<- hp] at hM D ⊢;obtain⟨x,J⟩:=je (p/2 ^ i);have b1:x<65536:=by rw[J];exact Nat.lt_of_le_of_lt (Nat.div_le_self _ _) hM
     have s1:=NV p i;rw[<- J] at s1;have K:=mY x (by omega);rw[<- J] at D;obtain⟨z,V⟩:∃ z,z=283*2 ^ j:=⟨_,rfl⟩;have b2:z<65536:=by
      rw[V];have h7:2 ^ j<=64:=by have:=Nat.pow_le_pow_right (n:=2) (by omega) (show j<=6 by omega);exact this
      exact Nat.lt_of_le_of_lt (Nat.mul_le_mul (ja 283) h7) (by omega)
     have s2:=UH 283 j;rw[<- V] at s2 D;simp only[Int.cast_ofNat_Int] at s2;have s3:=bY (z:Int) (by omega) (by omega);have q2:=uY p z (by omega) (by omega);obtain⟨u,hu⟩:=je (p ^^^ z);rw[<- hu] at q2 D;have HM:=jz D;have Z:=jz a1;clear J hp V hu D hi hj a0 a1;rcases Nat.mod_two_eq_zero_or_one x with I|I
     ·rw[I] at K;have R:=jz I;clear I;simp only[Int.cast_ofNat_Int] at K;go_wp2_with fail
      exact⟨⟨k+1,by omega,by rw[<- Z.out],by rw[HM.out,R.out,jQ (by omega)],by first|rfl|trivial⟩,by simp[intOf];omega⟩
     ·rw[I] at K;have R:=jz I;clear I;simp only[Int.cast_ofNat_Int] at K;go_wp2_with fail
      exact⟨⟨k+1,by omega,by rw[<- Z.out],by rw[HM.out,R.out,jP rfl],by first|rfl|trivial⟩,by simp[intOf];omega⟩
    ·have a7:k=7:=by omega
     subst a7;have hR:E7 a b=qS O 7 % 256:=by rw[a3.out];rfl
     have HR:=jz hR;have b0:=zR hP 7 (by omega);obtain⟨r,hr⟩:=je (qS O 7);rw[<- hr] at HR b0 ⊢;clear hR hr;go_wp2_with fail
     go_ret;refine⟨?_,rfl⟩;rw[HR.out];rfl
end
end Go.Proofs.YtjjlaipkkdncfaaGreatDoor
