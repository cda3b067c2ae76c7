import Derived.Test.YtiaigidbcljblaaGreatDoorMB15
import Derived.OneCell
import Derived.Laws.RangeAny
import Derived.Test.YtiaigidbcljblaaGreatDoorMB18
import Derived.Test.YtiaigidbcljblaaGreatDoorMB17
set_option linter.unusedVariables false
set_option linter.unusedSimpArgs false
set_option maxRecDepth 100000
set_option maxHeartbeats 40000000
namespace Go.Proofs.YtiaigidbcljblaaGreatDoor
open Go.Proofs.Tryz
section
open Go.RowKit
attribute [local irreducible] wpQuiet wpAnyH
def Bd(c:Nat)(d d':DiskD):Prop:=d'.steps<=d'.room/\d'.room<=d.room+c/\d'.sec.length=d.sec.length
theorem Bd.mono{c j:Nat}{d d':DiskD}(h:Bd c d d')(x:c<=j):Bd j d d':=⟨h.1,by have:=h.2.1;omega,h.2.2⟩
theorem Bd.trans{a b:Nat}{d d' j:DiskD}(h:Bd a d d')(k:Bd b d' j):Bd (a+b) d j:=⟨k.1,by have:=h.2.1;have:=k.2.1;omega,k.2.2.trans h.2.2⟩
theorem vP{d:DiskD}(h:d.steps<=d.room):Bd 1 d (aW d):=⟨by show d.steps+1<=max d.room (d.steps+1);omega,by show max d.room (d.steps+1)<=d.room+1;omega,rfl⟩
theorem PM{d:DiskD}(h:d.steps<=d.room)(a:Int)(s:Wl):Bd 1 d (jV d a s):=by
 unfold jV;split
 ·exact⟨by show d.steps<=d.room+1;omega,ja _,rfl⟩
 ·exact⟨h,by omega,rfl⟩
theorem yV{d:DiskD}(h:d.steps<=d.room)(cl:Wl):Bd 0 d (iS d cl):=⟨h,ja _,jU _ _ _⟩
theorem yW{d:DiskD}(h:d.steps<=d.room)(a:Int)(s:Wl):Bd 2 d (bG d a s):=by
 have h1:=vP h;have j:=h1.trans (PM h1.1 a s);unfold bG;split
 ·exact⟨h,by omega,rfl⟩
 ·split
  ·exact j.trans (yV j.1 _)
  ·split
   ·exact h1.mono (by omega)
   ·exact j
theorem vQ{d:DiskD}(h:d.steps<=d.room):Bd 1 d (cG d):=by
 have h1:=vP h;unfold cG;split
 ·exact⟨h,by omega,rfl⟩
 ·split
  ·exact h1.trans (yV h1.1 _)
  ·split
   ·exact h1
   ·exact⟨h1.1,h1.2.1,n7 _ _ _⟩
theorem GD{d:DiskD}(h:d.steps<=d.room)(a:Int)(s:Wl):Bd 3 d (wsD d a s):=by
 have h1:=yW h a s;unfold wsD;split
 ·exact h1.mono (by omega)
 ·exact h1.trans (vQ h1.1)
theorem DI:∀(L:List Wl) (d:DiskD) (a:Int),d.steps<=d.room->Bd (2*L.length+1) d (iX d a L).2
 | [],d,a,h=>(vQ h).mono (by simp)
 | s :: L,d,a,h=>by
  have h1:=yW h a s;unfold iX;split
  ·exact h1.mono (by simp;omega)
  ·exact(h1.trans (DI L _ _ h1.1)).mono (by simp;omega)
theorem DJ{d:DiskD}(h:d.steps<=d.room)(f z:Int)(g:Nat)(l:List cH):Bd (2*l.length+1) d (dE d f z g l).2:=by
 unfold dE;split
 ·exact⟨h,by simp,rfl⟩
 ·split
  ·exact(DI _ _ _ h).mono (by simp)
  ·exact⟨h,by simp,rfl⟩
def iM(a b:Int):Int:=if a+b>9223372036854775807 then 9223372036854775807 else if a+b < -9223372036854775808 then -9223372036854775808 else a+b
theorem vR(a b:Int):aD (iM a b):=by unfold iM aD;split <;> (try split) <;> omega
theorem T6{a b:Int}(h:a=b):Ending.returned (.int .i64 a) = .returned (.int .i64 b):=by rw[h]
def YQ(w:Wd)(g:Nat)(z:Int)(w':Wd):Prop:=w'=w.setCell ⟨g,0,none⟩ (.int .i64 z)
theorem PO(a b:Int)(g:Nat)(t:TypeId)(w:Wd)(ha:aD a)(hb:aD b)(D:Blk w g t #[.int .i64 a]):
  Wc 207 #[.int .i64 b,.pointer (some ⟨g,0,none⟩)] w λe w'=>e = .returned (.tuple #[])/\YQ w g (iM a b) w':=by
 have hc:=D.cell 0;have hf:=D.frozen 0;simp only[jf,jg] at hc;obtain⟨s,hs⟩:∃ s,wrap64 (a+b)=s:=⟨_,rfl⟩;have j:(-9223372036854775808<=a+b/\a+b<=9223372036854775807/\s=a+b)\/(9223372036854775807<a+b/\s=a+b-18446744073709551616)\/(a+b < -9223372036854775808/\s=a+b+18446744073709551616):=by
  rw[<- hs];unfold aD at ha hb;unfold wrap64;omega
 have HW:=jz j;have Z:=jz ha;have x:=jz hb;clear j ha hb D;have O:iM a b=if 9223372036854775807<a+b then 9223372036854775807 else if a+b < -9223372036854775808 then -9223372036854775808 else a+b:=rfl
 have HQ:=jz O;clear O;rcases jb (decide (0<=a)) with I|I <;> rcases jb (decide (0<=b)) with J|J <;> rcases jb (decide (s<0)) with K|K
 all_goals
  have R:decide (a<0) = !decide (0<=a):=by by_cases h:0<=a <;> simp[h] <;> omega
  have U:decide (b<0) = !decide (0<=b):=by by_cases h:0<=b <;> simp[h] <;> omega
  have V:decide (0<=s) = !decide (s<0):=by by_cases h:0<=s <;> simp[h] <;> omega
  rw[I] at R;rw[J] at U;rw[K] at V;simp only[Bool.not_true,Bool.not_false] at R U V;go_enter func207,ntmps207
  go_wp2_with fail
  go_end0
  refine⟨rfl,?_⟩;unfold YQ;rw[HQ.out];have h1:=HW.out;have h2:=Z.out;have h3:=x.out;unfold aD at h2 h3;simp only[decide_eq_true_eq,decide_eq_false_iff_not] at I J K
  first
   | (rw[jP (by omega)])
   | (rw[jQ (by omega),jP (by omega)])
   | (rw[jQ (by omega),jQ (by omega)];congr 2;omega)
theorem AR(a b:Int)(v:Value)(w:Wd)(ha:aD a)(hb:aD b)(hs:Sl w v [.int .i64 b]):
  Wc 151 #[.int .i64 a,v] w (Rt w (.int .i64 (iM a b))):=by
 obtain⟨A,cap,rfl,K,V⟩:=hs;obtain⟨bk,off,rfl,x⟩:=V (by simp);have D:=x 0 _ rfl;have O:=dV D;simp only[List.length_cons,List.length_nil,Nat.zero_add,Nat.add_zero] at D K O ⊢;have Z:=jz ha;have HB:=jz hb;have HC:=jz D;clear x V ha hb D;go_enter func151,ntmps151
 go_wp2_with fail
 go_loopw [11] (λi wr=>∃ k:Nat,k<=1/\i = .int .i64 k/\Blk wr w.heap.size 2 #[.int .i64 (if k=0 then a else iM a b)]/\Bw w wr) (λi _=>1-(intOf i).toNat)
 case atStart=>exact⟨0,by omega,rfl,Blk.new _ _ _,(ji _ _).alloc (ja _) _⟩
 case round=>
  obtain⟨k,hk,rfl,I,j⟩:=hrel;rcases jo k 1 with U|a0
  ·obtain rfl:k=0:=by omega
   rw[jP rfl] at I;have R:=j9 (w:=w) (w':=wr) ⟨j.os,j.tape,j.output,j.size,j.block⟩ HC.out;have HBl:=jz I;have J:=jz j;clear I j;go_wp2_with (go_at_call 207;refine(PO a b w.heap.size _ wr Z HB HBl).mono ?_;rintro e w' ⟨rfl,rfl⟩)
   exact⟨⟨1,by omega,by go_num,by rw[jQ (by omega)];exact HBl.set_ 0 _,J.out.setCell (ja _) _⟩,by simp[intOf]⟩
  ·obtain rfl:k=1:=by omega
   rw[jQ (by omega)] at I;have R:=I.cell 0;simp only[jf,jg] at R;go_wp2_with fail
   go_ret;exact⟨rfl,j⟩
def bOk(b:UInt8):Bool:=decide (33<=b.toNat) && decide (b.toNat<=126)
def eO(s:List UInt8):Bool:=decide (1<=s.length) && (decide (s.length<=100) && s.all bOk)
def cQ(l:List UInt8):ByteArray:=⟨l.toArray⟩
theorem yX(l:List UInt8):(cQ l).size=l.length:=by simp[cQ,ByteArray.size]
theorem mF(w:Wd)(s:ByteArray)(p:Nat):Bw w (w.iter s p):=(ji _ _).alloc (ja _) _
theorem PP(l:List UInt8)(k:Nat)(h:k<l.length):(l.take (k+1)).all bOk=((l.take k).all bOk && bOk l[k]):=by
 rw[j6 h,List.all_append];simp
theorem T7(l:List UInt8)(k:Nat)(h:k<l.length)(hb:bOk l[k]=false):l.all bOk=false:=by
 rw[Bool.eq_false_iff];intro ha;have:=List.all_eq_true.1 ha l[k] (List.getElem_mem h);rw[hb] at this;cases this
theorem oE(s:List UInt8)(w:Wd)(hs:s.length<=1000000000):Wc 285 #[.string (cQ s)] w (Rt w (.bool (eO s))):=by
 have U:=yX s;obtain⟨S,hS⟩:=je (cQ s);rw[<- hS] at U ⊢;have HS:=jz hS;have R:=jz U;clear hS U;have hq:eO s=(decide (1<=s.length) && (decide (s.length<=100) && s.all bOk)):=rfl;have HQ:=jz hq;clear hq;by_cases h1:s.length<1
 ·have K:Hid (eO s=false):=jz (by rw[HQ.out,decide_eq_false (by omega)];rfl);have t1:(S.size:Int)<1:=by have:=R.out;omega
  go_enter func285,ntmps285
  go_wp2_with fail
  go_ret;exact⟨by rw[K.out];rfl,ji _ _⟩
 by_cases h2:100<s.length
 ·have K:Hid (eO s=false):=jz (by rw[HQ.out,decide_eq_true (by omega),decide_eq_false (by omega)];rfl);have t1:¬(S.size:Int)<1:=by have:=R.out;omega
  have t2:(100:Int)<S.size:=by have:=R.out;omega
  go_enter func285,ntmps285
  go_wp2_with fail
  go_ret;exact⟨by rw[K.out];rfl,ji _ _⟩
 have K:Hid (eO s=s.all bOk):=jz (by rw[HQ.out,decide_eq_true (by omega),decide_eq_true (by omega)];rfl);have t1:¬(S.size:Int)<1:=by have:=R.out;omega
 have t2:¬(100:Int)<S.size:=by have:=R.out;omega
 go_enter func285,ntmps285
 go_wp2_with fail
 go_loopw [] (λw'=>∃ pos:Nat,w'=w.iter S pos/\pos<=s.length/\Hid ((s.take pos).all bOk=true)) (λw'=>s.length-w'.iterPos w.heap.size)
 case atStart=>exact⟨0,rfl,j0 _,jz rfl⟩
 case round=>
  obtain⟨pos,rfl,hp,HA⟩:=hrel;rcases jo pos s.length with I|a4
  ·have x:pos<S.size:=by rw[R.out];exact I
   have j:S[pos]'(x)=s[pos]:=by have:=HS.out;subst this;rfl
   have a1:=jz (PP s pos I);have O:=jz (T7 s pos I);by_cases ha:s[pos].toNat<128
   ·have J:∀ ty,(Instr.next (.pointer (some ⟨w.heap.size,0,none⟩)) true ty).run prog (w.iter S pos) = .ok (.tuple #[.bool true,.int .i64 pos,.int .i32 (s[pos].toNat:Nat)]) (w.iter S (pos+1)):=λty=>by
     rw[run_next_ascii w S pos ty x (by rw[j];exact ha),j]
    have a0:bOk s[pos]=(decide (33<=s[pos].toNat) && decide (s[pos].toNat<=126)):=rfl;have D:=jz a0;obtain⟨c,Z⟩:=je (s[pos].toNat);rw[<- Z] at J ha D;clear Z a0 j;by_cases hc1:c<33
    ·have V:Hid (s.all bOk=false):=jz (O (by rw[D.out,decide_eq_false (by omega)];rfl));have u1:(c:Int)<33:=by omega
     go_wp2_with fail
     go_ret;exact⟨by rw[K.out,V.out];rfl,mF _ _ _⟩
    ·have u1:¬(c:Int)<33:=by omega
     by_cases hc2:126<c
     ·have V:Hid (s.all bOk=false):=jz (O (by rw[D.out,decide_eq_true (by omega),decide_eq_false (by omega)];rfl));have u2:(126:Int)<c:=by omega
      go_wp2_with fail
      go_ret;exact⟨by rw[K.out,V.out];rfl,mF _ _ _⟩
     ·have HT:Hid ((s.take (pos+1)).all bOk=true):=jz (by rw[a1.out,HA.out,D.out,decide_eq_true (by omega),decide_eq_true (by omega)];rfl);have u2:¬(126:Int)<c:=by omega
      go_wp2_with fail
      exact⟨⟨pos+1,rfl,I,HT⟩,by simp;omega⟩
   ·have a2:=(decode_high S pos x (by rw[j];omega)).1;have a3:=decode_le S pos;have J:∀ ty,(Instr.next (.pointer (some ⟨w.heap.size,0,none⟩)) true ty).run prog (w.iter S pos) = .ok (.tuple #[.bool true,.int .i64 pos,.int .i32 ((Utf8.decode S pos).1:Nat)]) (w.iter S (pos+(Utf8.decode S pos).2)):=λty=>run_next_any w S pos ty x
    have V:Hid (s.all bOk=false):=jz (O (by
     unfold bOk
     rw[decide_eq_false (p:=s[pos].toNat<=126) (by omega)]
     simp))
    obtain⟨c,Z⟩:=je ((Utf8.decode S pos).1);rw[<- Z] at J a2 a3;clear Z ha j;have u1:¬(c:Int)<33:=by omega
    have u2:(126:Int)<c:=by omega
    go_wp2_with fail
    go_ret;exact⟨by rw[K.out,V.out];rfl,mF _ _ _⟩
  ·obtain rfl:pos=s.length:=by omega
   rw[List.take_length] at HA;have J:∀ ty,(Instr.next (.pointer (some ⟨w.heap.size,0,none⟩)) true ty).run prog (w.iter S s.length) = .ok (.tuple #[.bool false]) (w.iter S s.length):=λty=>run_next_end w S s.length ty (by rw[R.out];omega)
   go_wp2_with fail
   go_ret;exact⟨by rw[K.out,HA.out];rfl,mF _ _ _⟩
def cT(l:List Nat):Wl:=l.map (λx:Nat=>(x:Int))
theorem aU(l:List Nat):(cT l).length=l.length:=List.length_map _
theorem fH(l:List Nat):n8 l=u8s (cT l):=by
 unfold n8 u8s cT;rw[List.map_map];rfl
theorem lU{l:List Nat}(h:Byn l):Bys (cT l):=λx j=>by
 unfold cT at j;obtain⟨y,hy,rfl⟩:=List.mem_map.1 j;have:=h y hy;constructor <;> omega
theorem DL:∀ {a b:List Nat},cT a=cT b->a=b
 | [],[],_=>rfl
 | [],_ :: _,h=>by simp[cT] at h
 | _ :: _,[],h=>by simp[cT] at h
 | x :: a,y :: b,h=>by
  simp only[cT,List.map_cons,List.cons.injEq] at h;rw[DL h.2,show x=y by omega]
theorem LO(v1 v2:Value)(a b:List Nat)(w:Wd)(h1:Sn w 1 v1 a.length (n8 a))(I:Sn w 1 v2 b.length (n8 b))(ha:Byn a)(hb:Byn b):
  Wc 282 #[v1,v2] w λe w'=>e = .returned (.bool (decide (a=b)))/\w'=w:=by
 have D:=jz (sB v1 v2 (cT a) (cT b) w (by rw[aU,<- fH];exact h1) (by rw[aU,<- fH];exact I) (lU ha) (lU hb));have x:Hid (decide (cT a=cT b)=decide (a=b)):=jz (decide_eq_decide.2 ⟨DL,λh=>by rw[h]⟩);rw[x.out] at D;clear h1 I ha hb x;go_enter func282,ntmps282
 go_wp2_with fail
 refine(D).mono ?_;rintro e J ⟨rfl,j⟩;rw[j];clear j J;go_wp2_with fail
 go_ret;exact⟨rfl,rfl⟩
def zC32:Wa:=(arr 32 (c8 λ_=>0)).toArray
theorem AS:∀ w,(zeroValue 25).run prog w = .ok (.agg zC32) w:=λw=>by unfold zC32;kernel_rfl
theorem LP(vk vc va:Value)(key code:List Nat)(ps:List (Value×List Nat))(w:Wd)(hs:Sn w 1 vk key.length (n8 key))(a7:Byn key)(a8:key.length<=64)(hP:PN w va ps)(hn:ps.length<=100)(ht:(cL ps).length<=800000000)(hk:TabK w)
  (hc:Sn w 1 vc code.length (n8 code)) (a6:Byn code) (c6:16<=code.length) (c7:code.length<=32):
  Wc 220 #[vk,vc,va] w (Rt w (.bool (decide (code=(jB key (cL ps)).take code.length)))):=by
 obtain⟨Ac,a0,rfl,K,_,_⟩:=id hc;have HS:=jz (uV vk va key ps w hs a7 a8 hP hn ht hk);have HC:=jz hc;have c3:=jz a6;obtain⟨c,D⟩:=je code.length;rw[<- D] at c6 c7 K;have d7:¬(c:Int)<16:=by omega
 have e0:¬(32:Int)<c:=by omega
 have e1:(c:Int)<=32:=by omega
 have d5:(0:Int)<=c:=by omega
 have Z:=jz D;have d2:prog.arrayLen 25=32:=by kernel_rfl
 rw[<- D];clear hs a7 a8 hP hn ht hk hc a6 D;go_enter func220,ntmps220
 go_wp2_with fail
 refine(HS).mono ?_;rintro e R ⟨rfl,a3⟩;obtain⟨M,hM⟩:=je (n8 (jB key (cL ps)));have O:M.length=32:=by rw[hM,aR];exact dA _
 rw[<- hM];have c9:(prog.info? 25).map (·.size)=some M.toArray.size:=by rw[js,O];kernel_rfl
 have d0:zC32.size=M.toArray.size:=by rw[show M.toArray.size=32 from by rw[js,O]];exact aK 32 _
 have d1:M.toArray.all (·.oneCell')=true:=by rw[hM];exact all_oneCell_toArray (dO _)
 have c2:Blk (R.alloc (.cells zC32 25)) R.heap.size 25 zC32:=Blk.new _ _ _;have V:=jz a3;have HM:=jz hM;clear a3 hM O;go_wp2_with (first
  | (refine al 25 _ rfl rfl AS ?_)
  | (refine aO 25 (.tmp 7) (.tmp 18) rfl rfl rfl rfl c2 c9 d0 d1 ?_;intro w9 a1 a4 _ _;have b1:=jz a1;have c4:=jz a4;clear a1 a4))
 have a5:Bw R w9:=((ji _ R).alloc (ja _) _).trans c4.out;have J:Bw w w9:=V.trans (a5.mono V.size);have c5:Hid ((jB key (cL ps)).length=32):=jz (dA _);have a9:((jB key (cL ps)).take c).length=c:=by rw[jv,c5.out];omega
 have a2:Sn w9 1 (.slice (some ⟨R.heap.size,0,none⟩) c 32) ((jB key (cL ps)).take c).length (n8 ((jB key (cL ps)).take c)):=by
  rw[a9];refine⟨_,32,rfl,by omega,by rw[aR,a9,Nat.mul_one],λ_=>⟨R.heap.size,0,rfl,λj u U=>?_⟩⟩;have h:=b1.range j u;rw[jt,HM.out] at h;refine h ?_;unfold n8 at U ⊢;rw[List.map_take,List.getElem?_take] at U;by_cases e:j<c
  ·rw[jP e] at U;exact U
  ·rw[jQ e] at U;cases U
 have I:Sn w9 1 (.slice Ac code.length a0) code.length (n8 code):=HC.below J;refine(LO _ _ code ((jB key (cL ps)).take c) w9 (by rw[<- Z.out];rw[<- Z.out] at I;exact I) a2 c3 (λx hx=>jY _ x (j7 hx))).mono ?_;rintro e w7 ⟨rfl,b0⟩;rw[b0];clear b0 w7;have b7:=jz J;clear J a5 I a2;go_wp2_with fail
 go_ret;exact⟨rfl,b7⟩
end
section
open Go.RowKit
def bsI(xs:Wl):Bs:=xs.map λx=>UInt8.ofNat x.toNat
theorem mG(j:Wl):(bsI j).length=j.length:=List.length_map _
structure Nm where
 realm:Bs
 parts:List Bs
def nm0:Nm:=⟨[],[]⟩
structure NmOk(n:Nm):Prop where
 realm:eO n.realm=true
 parts:∀ p∈n.parts,eO p=true
 few:1<=n.parts.length/\n.parts.length<=8
theorem gZ{p:Bs}(h:eO p=true):1<=p.length/\p.length<=100:=by
 unfold eO at h;simp only[Bool.and_eq_true,decide_eq_true_eq] at h;exact⟨h.1,h.2.1⟩
def iH:Nat->RdS->List Bs->Option (List Bs)×RdS
 | 0,s,acc=>(some acc,s)
 | k+1,s,acc=>if eO (bsI (bC 1 s).1) then iH k (bC 1 s).2 (acc++[bsI (bC 1 s).1]) else (none,(bC 1 s).2)
def eB(s:RdS):(Nm×Bool)×RdS:=
 if eO (bsI (bC 1 s).1)=false then ((nm0,false),(bC 1 s).2)
 else if (aH 1 (bC 1 s).2).1<1\/8<(aH 1 (bC 1 s).2).1 then ((nm0,false),(aH 1 (bC 1 s).2).2)
 else match iH (aH 1 (bC 1 s).2).1 (aH 1 (bC 1 s).2).2 [] with
  | (some ps,s')=>((⟨bsI (bC 1 s).1,ps⟩,!s'.2),s')
  | (none,s')=>((nm0,false),s')
theorem vS:∀(k:Nat) (s:RdS) (acc:List Bs),RdOk s->RdOk (iH k s acc).2
 | 0,s,acc,h=>h
 | k+1,s,acc,h=>by
  unfold iH;split
  ·exact vS k _ _ (h.str 1)
  ·exact h.str 1
theorem tO{s:RdS}(h:RdOk s):RdOk (eB s).2:=by
 unfold eB;split
 ·exact h.str 1
 split
 ·exact(h.str 1).num 1
 ·have:=vS (aH 1 (bC 1 s).2).1 (aH 1 (bC 1 s).2).2 [] ((h.str 1).num 1);split
  ·rename_i j;rw[j] at this;exact this
  ·rename_i j;rw[j] at this;exact this
theorem p6:∀(k:Nat) (s:RdS) (acc ps:List Bs),(iH k s acc).1=some ps->(∀ p∈acc,eO p=true)->ps.length=acc.length+k/\∀ p∈ps,eO p=true
 | 0,s,acc,ps,h,ha=>by
  have:acc=ps:=Option.some.inj h;subst this;exact⟨rfl,ha⟩
 | k+1,s,acc,ps,h,ha=>by
  unfold iH at h;split at h
  ·rename_i x;have:=p6 k _ _ ps h (λp j=>by
    rcases List.mem_append.1 j with h1|h1
    ·exact ha p h1
    ·simp at h1;subst h1;exact x)
   rw[jj,List.length_singleton] at this;exact⟨by omega,this.2⟩
  ·cases h
theorem yY{s:RdS}(h:(eB s).1.2=true):NmOk (eB s).1.1:=by
 unfold eB at h ⊢;split at h
 ·cases h
 rename_i x;rw[jQ x];split at h
 ·cases h
 rename_i D;rw[jQ D];split at h
 ·rename_i ps s' j;have:=p6 _ _ _ ps (by rw[j]) (λp I=>by cases I);exact⟨by simpa using x,this.2,by simp at this;show 1<=ps.length/\ps.length<=8;omega⟩
 ·cases h
def lM(p:Bs):List Nat:=p.length :: p.map (·.toNat)
def nmN(n:Nm):List Nat:=lM n.realm++n.parts.length :: n.parts.flatMap lM
theorem DN{p:Bs}(h:eO p=true):(lM p).length<=101:=by
 have:=gZ h;unfold lM;simp;omega
theorem DO{p:Bs}(h:eO p=true):Byn (lM p):=λx j=>by
 have:=gZ h;unfold lM at j;rcases List.mem_cons.1 j with h1|h1
 ·omega
 ·obtain⟨b,_,rfl⟩:=List.mem_map.1 h1;exact b.toNat_lt
theorem DP:∀(l:List Bs),(∀ p∈l,eO p=true)->(l.flatMap lM).length<=101*l.length
 | [],_=>by simp
 | p :: l,h=>by
  have h1:=DN (h p (by simp));have x:=DP l (λq j=>h q (by simp[j]));rw[List.flatMap_cons,jj,List.length_cons];omega
theorem PR{l:List Bs}(h:∀ p∈l,eO p=true):Byn (l.flatMap lM):=λx D=>by
 obtain⟨p,j,h1⟩:=List.mem_flatMap.1 D;exact DO (h p j) x h1
theorem AT{n:Nm}(h:NmOk n):(nmN n).length<=1000:=by
 have h1:=DN h.realm;have j:=DP n.parts h.parts;have x:=h.few;unfold nmN;rw[jj,List.length_cons];omega
theorem T8{n:Nm}(h:NmOk n):Byn (nmN n):=λx j=>by
 have D:=h.few;unfold nmN at j;rcases List.mem_append.1 j with h1|h1
 ·exact DO h.realm x h1
 rcases List.mem_cons.1 h1 with h1|h1
 ·omega
 ·exact PR h.parts x h1
end
section
open Go.RowKit
attribute [local irreducible] wpQuiet wpAnyH
def z8x8:Wa:=(arr 8 (c8 λ_=>0)).toArray
theorem AU:∀ w,(zeroValue 308).run prog w = .ok (.agg z8x8) w:=λw=>by unfold z8x8;kernel_rfl
def k6(s:List Nat):Nat->Nat:=if 24<=s.length then nth s else λ_=>0
theorem yZ(v:Value)(s:List Nat)(w:Wd)(hs:Sn w 1 v s.length (n8 s)):Wc 218 #[v] w (Rt w (.tuple #[.agg (arr 8 (c8 (k6 s))).toArray,.bool (decide (24<=s.length))])):=by
 have c2:=jz hs;obtain⟨A,cap,rfl,b0,_,_⟩:=hs;obtain⟨n,hn⟩:=je s.length;have HN:=jz hn;rw[<- hn] at b0 ⊢;clear hn;have c5:prog.arrayLen 308=8:=by kernel_rfl
 go_enter func218,ntmps218
 go_upto_region 2 with (refine al 308 _ rfl rfl AU ?_)
 obtain⟨g,hg⟩:=je w.heap.size;obtain⟨w1,a7⟩:=je ((w.alloc (.cells z8x8 308)).alloc (.cells z8x8 308));have R:Hid (Bw w w1/\w.heap.size<=g/\AB w1 g 308 8 (c8 λ_=>0)/\AB w1 (g+1) 308 8 (c8 λ_=>0)):=jz (by
  rw[a7,hg]
  exact⟨((ji _ w).alloc (ja _) _).alloc (by simp) _,ja _,(Blk.new _ _ _).alloc _,Blk.newAt _ _ _ _ (by simp)⟩)
 rw[<- a7];simp only[World.size_alloc,<- hg];clear a7 hg;rcases jo n 24 with c3|a2
 ·have hi:(n:Int)<24:=by omega
  have x:=R.out.2.2.2.range;have V:Blk w1 g 308 z8x8:=R.out.2.2.1;have O:=PH (L:=arr 8 (c8 λ_=>0)) (aB _ _);have HF:Hid (k6 s=(λ_=>0)):=jz (by unfold k6;rw[jQ (by rw[<- HN.out];omega)]);have HD:Hid (decide (24<=n)=false):=jz (decide_eq_false (by omega));obtain⟨M,I⟩:=je (arr 8 (c8 λ_=>0));rw[<- I] at x O;have a4:(prog.info? 308).map (·.size)=some M.toArray.size:=by rw[js];exact O
  have a5:z8x8.size=M.toArray.size:=by rw[I,aK];exact aK 8 _
  have a6:M.toArray.all (·.oneCell')=true:=by rw[I];exact bW (λ_=>rfl)
  have a0:=jz I;clear I c3;go_wp2_with (first
   | (refine ld 308 (.tmp 4) rfl rfl rfl x underlying308 rfl O ?_)
   | (refine aO 308 (.tmp 2) (.tmp 8) rfl rfl rfl rfl V a4 a5 a6 ?_;intro w9 D J _ _;have U:=jz D;have Z:=jz J;clear D J))
  have a3:w9.rangeAt g 0 M:=by have:=U.range;rwa [jt] at this
  exact bodyPost_ret (aC rfl _ rfl a3 underlying308 rfl O) rfl ⟨by rw[HF.out,HD.out,<- a0.out];rfl,R.out.1.trans (Z.mono R.out.2.1)⟩
 ·have hi:¬(n:Int)<24:=by omega
  have HD:Hid (decide (24<=n)=true):=jz (decide_eq_true a2);have HF:Hid (k6 s=nth s):=jz (by unfold k6;rw[jP (by rw[<- HN.out];exact a2)]);obtain⟨A',c4,hv,_,_,hx⟩:=c2.below R.out.1;injection hv with hA _ _
  subst hA;obtain⟨b,off,rfl,hr⟩:=hx (by rw[<- HN.out];omega);obtain⟨T,hT⟩:=je (s.take 8);have a1:T.length=8:=by rw[hT,jv,<- HN.out];omega
  have x:w1.rangeAt b off (n8 T):=λj u hj=>by
   refine hr j u ?_;rw[hT] at hj;unfold n8 at hj ⊢;rw[List.map_take,List.getElem?_take] at hj;by_cases e:j<8
   ·rw[jP e] at hj;exact hj
   ·rw[jQ e] at hj;cases hj
  have b1:(n8 T).length=Nat.min n 8:=by rw[aR,a1];exact(Nat.min_eq_right (by omega)).symm
  have b7:w1.there (g+1) 0 (n8 T).length:=by rw[aR,a1];exact R.out.2.2.2.there (by omega)
  obtain⟨w3,a8⟩:=je (w1.setCells (g+1) 0 (n8 T));have K:Hid (Bw w w3/\w.heap.size<=g/\AB w3 g 308 8 (c8 λ_=>0)/\AB w3 (g+1) 308 8 (c8 (nth s))):=jz (by
   have h:=R.out
   rw[a8]
   refine⟨Below.setS (by have:=h.2.1;omega) _ _ h.1,h.2.1,h.2.2.1.farS (by omega) _ _,(h.2.2.2.setL T).ext (λq hq=>?_)⟩
   show Value.int .u8 ((if 0<=q/\q<0+T.length then nth T (q-0) else 0:Nat):Int)=Value.int .u8 ((nth s q:Nat):Int)
   rw[jP (by omega),Nat.sub_zero,hT]
   unfold nth
   rw[jn,jn,List.getElem?_take,jP hq])
  have a9:=jz a8;clear hx hr a8 hT a1 a2 R;go_upto_region 5 with (refine cpm (.tmp 9) (.tmp 10) rfl (by rfl) (cs:=n8 T) (b:=g+1) (off:=0) (dn:=8) (dc:=8) (by rfl) (by rfl) underlying68 (by kernel_rfl) b1 x b7 (dO T) ?_)
  rw[<- a9.out];clear a9 x b1 b7;have x:=K.out.2.2.2.range;have V:Blk w3 g 308 z8x8:=K.out.2.2.1;have O:=PH (L:=arr 8 (c8 (nth s))) (aB _ _);obtain⟨M,I⟩:=je (arr 8 (c8 (nth s)));rw[<- I] at x O;have a4:(prog.info? 308).map (·.size)=some M.toArray.size:=by rw[js];exact O
  have a5:z8x8.size=M.toArray.size:=by rw[I,aK];exact aK 8 _
  have a6:M.toArray.all (·.oneCell')=true:=by rw[I];exact bW (λ_=>rfl)
  have a0:=jz I;clear I
  try simp only[jq]
  go_wp2_with (first
   | (refine ld 308 (.tmp 4) rfl rfl rfl x underlying308 rfl O ?_)
   | (refine aO 308 (.tmp 2) (.tmp 12) rfl rfl rfl rfl V a4 a5 a6 ?_;intro w9 D J _ _;have U:=jz D;have Z:=jz J;clear D J))
  have a3:w9.rangeAt g 0 M:=by have:=U.range;rwa [jt] at this
  exact bodyPost_ret (aC rfl _ rfl a3 underlying308 rfl O) rfl ⟨by rw[HF.out,HD.out,<- a0.out];rfl,K.out.1.trans (Z.mono K.out.2.1)⟩
theorem YR:SlT prog 77 9 1 16:=SlT.mk' underlying77 (z:=.string ByteArray.empty) (by kernel_rfl) rfl (by decide)
def fD(l:List Bs):Wv:=l.map λp=>.string (cQ p)
theorem WS{p:Wl}(h:Bys p)(j:Nat)(x:j<p.length)(D:j<(bsI p).length):(((bsI p)[j]).toNat:Int)=p[j]:=by
 have:=h _ (List.getElem_mem x);have e:(bsI p)[j]=UInt8.ofNat (p[j]).toNat:=by simp[bsI]
 rw[e,UInt8.toNat_ofNat'];omega
theorem JS{w:Wd}{p:Wl}{A:Option Addr}{cap:Nat}(h:Sn w 1 (.slice A p.length cap) p.length (u8s p))(hb:Bys p):(convert 68 9 (.slice A p.length cap)).run prog w = .ok (.string (cQ (bsI p))) w:=by
 obtain⟨R,D,hv,_,_,I⟩:=h;injection hv with hA _ _
 subst hA;cases A with
 | none=>
  have O:p=[]:=by
   rcases Nat.eq_zero_or_pos p.length with h|h
   ·exact List.eq_nil_of_length_eq_zero h
   ·obtain⟨b,off,e,_⟩:=I h;cases e
  subst O;rw[run_convert_bytes_nil w 68 5 underlying68 underlying5 _ _ _ underlying9];rfl
 | some a=>
  have:=run_convert_bytes_back w 68 9 5 a cap (bsI p) underlying68 underlying5 underlying9 (λj K=>by
   have x:j<p.length:=by rw[<- mG];exact K
   obtain⟨b,off,e,J⟩:=I (by omega)
   injection e with e
   subst e
   rw[Addr.add_lit,WS hb j x]
   exact J j _ (by simp[u8s,x]))
  rw[mG] at this;exact this
def nmZ:Wa:=#[.string ByteArray.empty,.slice none 0 0]
def NmP(w:Wd)(n:Nm)(ok:Bool)(e:Ending)(w':Wd):Prop:=∃ v,e = .returned (.tuple #[.agg #[.string (cQ n.realm),v],.bool ok])/\w'.ownsRow w.heap.size 9 1 v n.parts.length (fD n.parts)
theorem T9{B:Nat}{w:Wd}{r:Nat}{s:RdS}(h:RDB B w r s):Wc 286 #[.pointer (some ⟨r,0,none⟩)] w λe w'=>e = .returned (.bool s.2)/\w'=w:=by
 obtain⟨v,h1,_⟩:=h;have j:=h1.1.cell 1;simp only[jf,jh,jg] at j;clear h1;go_enter func286,ntmps286
 go_wp2_with fail
 go_ret;exact⟨rfl,rfl⟩
theorem Off.put{r g:Nat}{w W:Wd}(h:Off r w W)(hg:w.heap.size<=g)(i:Nat)(u:Value):Off r w (W.setCell ⟨g,i,none⟩ u):=
 ⟨h.os,h.tape,h.output,by simpa using h.size,λk x j=>(Below.heap_setCell W ⟨g,i,none⟩ u k (by show k≠g;omega)).trans (h.block k x j)⟩
theorem RDB.put{B:Nat}{W:Wd}{r g:Nat}{s:RdS}(h:RDB B W r s)(hr:r≠g)(hg:B<=g)(i:Nat)(u:Value):RDB B (W.setCell ⟨g,i,none⟩ u) r s:=h.off ((Off.refl g W).set i u) hr hg
theorem Off.puts{r g:Nat}{w:Wd}:∀(vs:Wv) (o:Nat) {W:Wd},Off r w W->w.heap.size<=g->Off r w (W.setCells g o vs)
 | [],o,W,h,hg=>h
 | u :: vs,o,W,h,hg=>Off.puts vs (o+1) (h.put hg o u) hg
theorem Off.putsR(g:Nat){w:Wd}:∀(vs:Wv) (o:Nat) {W:Wd},Off g w W->Off g w (W.setCells g o vs)
 | [],o,W,h=>h
 | u :: vs,o,W,h=>Off.putsR g vs (o+1) (h.set o u)
theorem iA{w:Wd}{g t n:Nat}{cs:Wa}(h:Blk w g t cs)(D:n<=cs.size):w.there g 0 n:=λj x=>⟨by rw[Nat.zero_add,h.cell,Array.getElem?_eq_getElem (by omega)];rfl,h.frozen _⟩
theorem cD{w:Wd}{base e s n g t:Nat}{v:Value}{J:Wv}{cs:Wa}(I:w.ownsRow base e s v n J)(x:Blk w g t cs)(j:t≠e):some g≠v.ownBlock:=λh=>by
 obtain⟨_,h1|⟨K,cap,D,rfl,_,hg,_⟩⟩:=I
 ·rw[h1.1] at h;cases h
 ·injection h with h
  subst h;unfold Blk at x;rw[x] at hg;injection hg with hg
  injection hg with _ hg _
  exact j hg
theorem kI{w w':Wd}{base e s n g t:Nat}{v:Value}{I:Wv}{cs:Wa}(hg:w.grownBy w' v.ownBlock)(D:w.ownsRow base e s v n I)(j:Blk w g t cs)(x:t≠e):Blk w' g t cs:=(hg.block g j.lt (cD D j x)).trans j
theorem Off.grownO{r:Nat}{w W W':Wd}{base e s n:Nat}{v:Value}{I:Wv}(h:Off r w W)(D:W.ownsRow base e s v n I)(hb:w.heap.size<=base)(hg:W.grownBy W' v.ownBlock):Off r w W':=
 ⟨hg.os.trans h.os,hg.tape.trans h.tape,hg.output.trans h.output,jm h.size hg.size,λk x j=>(hg.block k (jp x h.size) (λe=>by have:=(D.lt k e.symm).1;omega)).trans (h.block k x j)⟩
theorem RDB.grown{B:Nat}{W W':Wd}{r:Nat}{s:RdS}{base e x n:Nat}{v:Value}{D:Wv}(h:RDB B W r s)(j:W.ownsRow base e x v n D)(I:B<=base)(J:r<base)(hg:W.grownBy W' v.ownBlock):RDB B W' r s:=by
 cases hv:v.ownBlock with
 | none=>
  rw[hv] at hg;exact h.keep ((ji _ W).grown hg (ja _) (λb h=>by cases h))
 | some g=>
  have h1:=(j.lt g hv).1;rw[hv] at hg;exact h.off (Off.of_grown hg) (by omega) (by omega)
structure NrX(B:Nat)(w wr:Wd)(r gn g2 k N:Nat)(S:ByteArray)(v:Value)(s:RdS)(acc:List Bs)(R:Option (List Bs)×RdS):Prop where
 rd:RDB B wr r s
 ok:RdOk s
 n:Blk wr gn 121 #[.string S,v]
 z:Blk wr g2 121 nmZ
 off:Off r w wr
 own:wr.ownsRow w.heap.size 9 1 v k (fD acc)
 len:acc.length=k
 eq:iH (N-k) s acc=R
theorem nL:(prog.info? 121).map (·.size)=some 2:=by kernel_rfl
theorem y0{B:Nat}{w:Wd}{r:Nat}{s:RdS}(h:RDB B w r s)(hB:B<=w.heap.size)(hs:RdOk s):Wc 222 #[.pointer (some ⟨r,0,none⟩)] w λe w'=>Off r w w'/\RDB B w' r (eB s).2/\NmP w (eB s).1.1 (eB s).1.2 e w':=by
 have h8:=h.lt;have HR:=jz h;have d0:=jz hs;have HQ:Hid (eB s=if eO (bsI (bC 1 s).1)=false then ((nm0,false),(bC 1 s).2)
  else if (aH 1 (bC 1 s).2).1<1\/8<(aH 1 (bC 1 s).2).1 then ((nm0,false),(aH 1 (bC 1 s).2).2)
  else match iH (aH 1 (bC 1 s).2).1 (aH 1 (bC 1 s).2).2 [] with
   | (some ps,s')=>((⟨bsI (bC 1 s).1,ps⟩,!s'.2),s')
   | (none,s')=>((nm0,false),s')):=jz (by unfold eB;rfl)
 obtain⟨Z,hZ⟩:=je (eB s);rw[<- hZ] at HQ ⊢;clear hZ h hs;have a7:Hid (r<w.heap.size/\B<=w.heap.size):=jz ⟨h8,hB⟩;clear h8 hB;obtain⟨PQ,h3⟩:∃ q,q=fun(e:Ending) (w':Wd)=>Off r w w'/\RDB B w' r Z.2/\NmP w Z.1.1 Z.1.2 e w':=⟨_,rfl⟩
 have n3:=jz h3;rw[<- h3];clear h3;go_enter func222,ntmps222
 go_upto_region 1 with fail
 obtain⟨w1,d1⟩:=je (w.alloc (.cells nmZ 121));obtain⟨I,h5⟩:=je w.heap.size;have h9:Hid (Bw w w1):=jz (by rw[d1];exact aG _ _);have k3:Hid (Blk w1 I 121 nmZ):=jz (by rw[d1,h5];exact Blk.new _ _ _);have j:Hid (w.heap.size<=I/\r≠I/\B<=I):=jz (by have:=a7.out;exact⟨by omega,by omega,by omega⟩);have r0:w.alloc (.cells #[.string { data:=#[] },.slice none 0 0] 121)=w1:=d1.symm;rw[r0,<- h5];clear d1 r0 h5;have g1:=jz (pC 1 (HR.keep h9) d0 (by omega) (by omega));have f8:=jz (d0.str 1);have f3:=jz (jH d0 1);obtain⟨x1,r1⟩:=je (bC 1 s);rw[<- r1] at g1 f8 f3 HQ;clear r1;go_wp2_with fail
 refine g1.mono ?_;rintro e w2 ⟨J,q4,y,rfl,a2,h4⟩;obtain⟨A,ca,rfl,_⟩:=id a2;have c3:=JS a2 f3.out.1;have n4:=jz q4;have f2:=jz (J.blk k3 (Ne.symm j.out.2.1));have a8:Hid (Off r w w2):=jz ((Off.of_below h9).trans J);obtain⟨S,hS⟩:=je (cQ (bsI x1.1));rw[<- hS] at c3;have q1:=jz hS;clear J q4 a2 h4 g1 hS;go_upto_region 2 with fail
 obtain⟨w3,d2⟩:=je (w2.alloc (.cells #[.string S,.slice none 0 0] 121));obtain⟨gn,h7⟩:=je w2.heap.size;have c5:Hid (Bw w2 w3):=jz (by rw[d2];exact aG _ _);have f4:Hid (Blk w3 gn 121 #[.string S,.slice none 0 0]):=jz (by rw[d2,h7];exact Blk.new _ _ _);have a0:Hid (I≠gn/\r≠gn/\w.heap.size<=gn/\B<=gn):=jz (by have:=f2.lt;have:=a8.size;have:=a7.out;exact⟨by omega,by omega,by omega,by omega⟩);rw[<- d2,<- h7];clear d2 h7 c3;have k4:=jz (f2.keep c5);have n6:=jz (n4.keep c5);have d7:Hid (Off r w w3):=jz (a8.trans (Off.of_below c5));have n0:=f4.cell 0;simp only[jf,jh,jg] at n0;have a1:=jz (oE (bsI x1.1) w3 (by rw[mG];have:=f3.out.2;have:=d0.len;omega));rw[<- q1.out] at a1;go_wp2_with fail
 refine a1.mono ?_;rintro e w4 ⟨rfl,c2⟩;have K:=jz (k4.keep c2);have m3:=jz (f4.keep c2);have f9:=jz (n6.keep c2);have a9:Hid (Off r w w4):=jz (d7.trans (Off.of_below c2));clear c2 n0 a1 k3 f2 k4 n4 n6 f4 a8 d7 c5;have a3:Hid (∀(W:Wd) (s':RdS),Blk W I 121 nmZ->Off r w W->RDB B W r s'->Z=((nm0,false),s') ->
   PQ (.returned (.tuple #[.agg nmZ,.bool false])) ((W.setCell ⟨I,0,none⟩ (.string ByteArray.empty)).setCell ⟨I,1,none⟩ (.slice none 0 0))):=jz (λW s' hk J hr hz=>by
  rw[n3.out,hz]
  exact⟨(J.put j.out.1 _ _).put j.out.1 _ _,(hr.put j.out.2.1 j.out.2.2 _ _).put j.out.2.1 j.out.2.2 _ _,_,rfl,World.ownsRow_nil _ _ _ _⟩)
 have a5:Hid (∀(W:Wd),Blk W I 121 nmZ->((W.setCell ⟨I,0,none⟩ (.string ByteArray.empty)).setCell ⟨I,1,none⟩ (.slice none 0 0)).rangeAt I 0 [.string ByteArray.empty,.slice none 0 0]):=jz (λW hk=>((hk.set_ 0 (.string ByteArray.empty)).set_ 1 (.slice none 0 0)).range);have k0:=K.cell 0;have k1:=K.cell 1;have f0:=K.frozen 0;have f1:=K.frozen 1;simp only[nmZ,jf,jh,jg] at k0 k1;cases hw:eO (bsI x1.1) with
 | false=>
  have HZ:Hid (Z=((nm0,false),x1.2)):=jz (by rw[HQ.out,jP hw]);clear hw;go_wp2_with fail
  refine bodyPost_ret (aC (P:=prog) (cs:=[.string ByteArray.empty,.slice none 0 0]) rfl _ rfl (a5 _ K) underlying121 rfl nL) rfl ?_;exact a3 _ _ K a9 f9 HZ.out
 | true=>
  rw[jQ (by rw[hw];decide)] at HQ;have f7:=jz (fO 1 f9 f8 (by omega) (by omega));have c9:=jz (f8.num 1);have t3:=jz hw;obtain⟨x2,r2⟩:=je (aH 1 x1.2);rw[<- r2] at f7 c9 HQ;clear r2 hw k0 k1 f0 f1;go_wp2_with fail
  refine f7.mono ?_;rintro e w5 ⟨J,q5,rfl⟩;have x:=jz (J.blk K (Ne.symm j.out.2.1));have m4:=jz (J.blk m3 (Ne.symm a0.out.2.1));have b1:=jz q5;have a4:=jz (a9.trans J);obtain⟨N,s2⟩:=x2;simp only at HQ b1 c9 ⊢;clear J q5 f7 K m3 f9 a9;have k0:=x.cell 0;have k1:=x.cell 1;have f0:=x.frozen 0;have f1:=x.frozen 1;simp only[nmZ,jf,jh,jg] at k0 k1;by_cases hN1:N<1
  ·have HZ:Hid (Z=((nm0,false),s2)):=jz (by rw[HQ.out,jP (.inl hN1)]);have t1:(N:Int)<1:=by omega
   go_wp2_with fail
   refine bodyPost_ret (aC (P:=prog) (cs:=[.string ByteArray.empty,.slice none 0 0]) rfl _ rfl (a5 _ x) underlying121 rfl nL) rfl ?_;exact a3 _ _ x a4 b1 HZ.out
  by_cases hN8:8<N
  ·have HZ:Hid (Z=((nm0,false),s2)):=jz (by rw[HQ.out,jP (.inr hN8)]);have t1:¬(N:Int)<1:=by omega
   have t2:(8:Int)<N:=by omega
   go_wp2_with fail
   refine bodyPost_ret (aC (P:=prog) (cs:=[.string ByteArray.empty,.slice none 0 0]) rfl _ rfl (a5 _ x) underlying121 rfl nL) rfl ?_;exact a3 _ _ x a4 b1 HZ.out
  rw[jQ (by omega)] at HQ;have t1:¬(N:Int)<1:=by omega
  have t2:¬(8:Int)<N:=by omega
  obtain⟨R,hR⟩:=je (iH N s2 []);rw[<- hR] at HQ;have q3:Hid (NrX B w w5 r gn I 0 N S (.slice none 0 0) s2 [] R):=jz ⟨b1,c9,m4,x,a4,World.ownsRow_nil _ _ _ _,rfl,hR.symm⟩;clear hR x m4 b1 a4 c9 k0 k1 f0 f1;go_upto_region 7 with fail
  go_wp2_with fail
  clear t1 t2;go_loopw [26] (λi wr=>∃(k:Nat) (v:Value) (s:RdS) (V:List Bs),k<=N/\i = .int .u64 k/\Hid (NrX B w wr r gn I k N S v s V R)) (λi _=>N-(intOf i).toNat)
  case atStart=>exact⟨0,_,_,_,j0 _,rfl,q3⟩
  case round=>
   clear q3;obtain⟨k,v,s,V,hk,rfl,U⟩:=hrel;rcases jo k N with h8|t5
   ·have t6:(k:Int)<N:=by omega
    have g3:=jz (pC 1 U.rd U.ok (by omega) (by omega));have n2:=jz (U.ok.str 1);have f6:=jz (jH U.ok 1);have c6:Hid ((if eO (bsI (bC 1 s).1) then iH (N-(k+1)) (bC 1 s).2 (V++[bsI (bC 1 s).1]) else (none,(bC 1 s).2))=R):=jz (by
     have h:=U.eq
     rw[show N-k=(N-(k+1))+1 from by omega] at h
     exact h)
    obtain⟨xp,r3⟩:=je (bC 1 s);rw[<- r3] at g3 n2 f6 c6;have s4:=jz U.ok.len;clear r3;go_wp2_with fail
    refine g3.mono ?_;rintro e w6 ⟨J,q6,y,rfl,a2,h4⟩;obtain⟨A,ca,rfl,_⟩:=id a2;have c3:=JS a2 f6.out.1;have q0:=jz q6;have m1:=jz (J.blk U.z (Ne.symm j.out.2.1));have m5:=jz (J.blk U.n (Ne.symm a0.out.2.1));have e0:=jz (U.off.trans J);have q2:Hid (w6.ownsRow w.heap.size 9 1 v k (fD V)):=jz (aP U.own (λb hb=>J.block b (U.own.lt b hb).2 (by have:=(U.own.lt b hb).1;have:=a7.out;omega)));have r5:=jz U.len;obtain⟨T,hT⟩:=je (cQ (bsI xp.1));rw[<- hT] at c3;have s3:=jz hT;have a1:=jz (oE (bsI xp.1) w6 (by rw[mG];have:=f6.out.2;have:=s4.out;omega));rw[<- hT] at a1;clear J q6 a2 h4 g3 U hT;go_wp2_with fail
    clear c3;refine a1.mono ?_;rintro e w7 ⟨rfl,a6⟩;have g0:=jz (q0.keep a6);have O:=jz (m1.keep a6);have f5:=jz (m5.keep a6);have b0:=jz (e0.trans (Off.of_below a6));have g8:=jz (aJ q2 a6);clear a6 a1 q0 m1 m5 e0 q2;cases hw:eO (bsI xp.1) with
    | false=>
     have HZ:Hid (Z=((nm0,false),xp.2)):=jz (by
      have h:=c6.out
      rw[jQ (by rw[hw];decide)] at h
      rw[HQ.out,<- h])
     have k0:=O.cell 0;have k1:=O.cell 1;have f0:=O.frozen 0;have f1:=O.frozen 1;simp only[nmZ,jf,jh,jg] at k0 k1;clear hw;go_wp2_with fail
     refine bodyPost_ret (aC (P:=prog) (cs:=[.string ByteArray.empty,.slice none 0 0]) rfl _ rfl (a5 _ O) underlying121 rfl nL) rfl ?_;exact a3 _ _ O b0 g0 HZ.out
    | true=>
     rw[jP hw] at c6;clear hw;obtain⟨VA,vc,rfl,_,_⟩:=bN g8.out;have n1:=f5.cell 1;simp only[jf,jh,jg] at n1;have b7:=jz (aJ g8 (aG w7 (.cells #[.string T] 9)));have s0:=jz (f5.keep (aG w7 (.cells #[.string T] 9)));have r6:=jz (O.keep (aG w7 (.cells #[.string T] 9)));have s1:=jz (g0.keep (aG w7 (.cells #[.string T] 9)));have m9:=jz (b0.trans (Off.of_below (aG w7 (.cells #[.string T] 9))));have r7:Hid (w.heap.size<=(w7.alloc (.cells #[.string T] 9)).heap.size):=jz m9.size;clear g8 f5 O g0 b0;have c4:∀ u∈(#[.string T]:Wa).toList,u.oneCell'=true:=λu hu=>by simp at hu;rw[hu];rfl
     have m2:Hid (k<=8):=jz (by omega);go_wp2_with (refine app YR (.tmp 36) (.tmp 38) rfl rfl (by rfl) b7 (by rfl) (Sn.new w7 #[.string T] 9 1 1 rfl) c4 (by have:=m2.out;unfold maxLen;omega) (by have:=m2.out;omega) r7 ?_;intro v2 w8 h0 h6 t0;obtain⟨A8,c8,rfl,_,_⟩:=bN h0;have m6:=jz h0;have e8:=jz h6;have c7:=jz (kI h6 b7 s0 (by decide));clear h0 h6 t0 n1;have n8:=c7.cell 1;have m8:=c7.frozen 1;simp only[jf,jh,jg] at n8)
     refine⟨⟨k+1,_,xp.2,V++[bsI xp.1],by omega,by go_num,jz ⟨?_,n2,c7.set_ 1 _,?_,?_,?_,?_,c6⟩⟩,by simp[intOf];omega⟩
     ·exact(s1.grown b7 a7.out.2 a7.out.1 e8).put a0.out.2.1 a0.out.2.2.2 _ _
     ·exact(kI e8 b7 r6 (by decide)).far a0.out.1 _
     ·exact(m9.grownO b7 (ja _) e8).put a0.out.2.2.1 _ _
     ·have h:=ownsRow_setCell_other m6 (a:=⟨gn,1,none⟩) (λe=>cD m6 c7 (by decide) e.symm) (Value.slice A8 (k+1) c8);rw[s3.out] at h;unfold fD at h ⊢;rw[List.map_append];exact h
     ·rw[jj,r5.out];rfl
   ·obtain rfl:k=N:=by omega
    have HZ:Hid (Z=((⟨bsI x1.1,V⟩,!s.2),s)):=jz (by
     have h:=U.eq
     rw[Nat.sub_self] at h
     have h2:(some V,s)=R:=h
     rw[HQ.out,<- h2])
    obtain⟨wD,d5⟩:=je wr.drew;have D:Hid (NrX B w wD r gn I k k S v s V R):=jz (by
     have h:=U.out
     have hb:Bw wr wD:=by rw[d5];exact(ji _ _).drew
     exact⟨h.rd.keep hb,h.ok,h.n.keep hb,h.z.keep hb,h.off.trans (Off.of_below hb),aJ h.own hb,h.len,h.eq⟩)
    have k2:=jz (T9 D.rd);obtain⟨bad,e1⟩:=je s.2;rw[<- e1] at k2 HZ;clear e1 U;go_upto_region 14 with fail
    refine kZ (n:=6) (λW=>W.rangeAt gn 0 [.string S,v]) (by rw[<- d5];exact D.n.range) (h:=λhH=>?_);rw[<- d5] at hH ⊢;clear d5;refine qL 0 (cs:=[.string S,v]) (λW hW=>hW) rfl ?_;refine qM 1 (.pointer (some ⟨r,0,none⟩)) ?_;refine kF 2 (some 44) (k2.mono ?_);rintro e w8 ⟨rfl,rfl⟩;refine⟨_,rfl,hH,λt4=>?_⟩;simp only[jq];refine qT 3 (.bool (!bad)) ?_;have q7:=iA (n:=2) D.z (by decide);have c4:∀ u∈[Value.string S,v],u.oneCell'=true:=λu hu=>by
     simp only[jl,j8,or_false] at hu;rcases hu with rfl|rfl
     ·rfl
     ·obtain⟨VA,vc,rfl,_,_⟩:=bN D.own;rfl
    have s5:(w8.setCells I 0 [.string S,v]).rangeAt gn 0 [.string S,v]:=((Off.putsR I _ 0 (Off.refl I _)).blk D.n (Ne.symm a0.out.1)).range;refine kR 4 none (n:=2) (cs:=[.string S,v]) q7 rfl c4 s5 (h:=?_);simp only[jq];refine qT 5 (.bool (!bad)) ?_;refine kE (h:=?_);go_wp2_with fail
    refine bodyPost_ret (aC (P:=prog) (cs:=[.string S,v]) rfl _ rfl (World.rangeAt_setCells_same _ I 0 _ q7) underlying121 rfl nL) rfl ?_;rw[n3.out,HZ.out];have J:=Off.putsR I [Value.string S,v] 0 (Off.refl I w8);refine⟨Off.puts _ _ D.off j.out.1,D.rd.off J j.out.2.1 j.out.2.2,v,?_,?_⟩
    ·rw[q1.out];rfl
    ·have h:=D.own;rw[<- D.len] at h;exact aP h (λb hb=>J.block b (h.lt b hb).2 (λe=>cD h D.z (by decide) (by rw[hb,e])))
end
end Go.Proofs.YtiaigidbcljblaaGreatDoor
