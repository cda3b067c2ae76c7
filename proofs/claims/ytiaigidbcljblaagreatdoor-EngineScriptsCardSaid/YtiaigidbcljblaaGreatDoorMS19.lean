import Derived.Test.YtiaigidbcljblaaGreatDoorMS15
import Derived.OneCell
import Derived.Laws.RangeAny
import Derived.Test.YtiaigidbcljblaaGreatDoorMS18
import Derived.Test.YtiaigidbcljblaaGreatDoorMS17
set_option linter.unusedVariables false
set_option linter.unusedSimpArgs false
set_option maxRecDepth 100000
set_option maxHeartbeats 40000000
namespace Go.Proofs.YtiaigidbcljblaaGreatDoor
open Go.Proofs.Tryz
section
open Go.RowKit
attribute [local irreducible] wpQuiet wpAnyH
def Bd(c:Nat)(d d':DiskD):Prop:=d'.steps<=d'.room/\d'.room<=d.room+c/\d'.sec.length=d.sec.length
theorem Bd.mono{c j:Nat}{d d':DiskD}(h:Bd c d d')(x:c<=j):Bd j d d':=⟨h.1,by have:=h.2.1;omega,h.2.2⟩
theorem Bd.trans{a b:Nat}{d d' j:DiskD}(h:Bd a d d')(k:Bd b d' j):Bd (a+b) d j:=⟨k.1,by have:=h.2.1;have:=k.2.1;omega,k.2.2.trans h.2.2⟩
theorem wY{d:DiskD}(h:d.steps<=d.room):Bd 1 d (aX d):=⟨by show d.steps+1<=max d.room (d.steps+1);omega,by show max d.room (d.steps+1)<=d.room+1;omega,rfl⟩
theorem Q0{d:DiskD}(h:d.steps<=d.room)(a:Int)(s:Wl):Bd 1 d (kK d a s):=by
 unfold kK;split
 ·exact⟨by show d.steps<=d.room+1;omega,ja _,rfl⟩
 ·exact⟨h,by omega,rfl⟩
theorem AA{d:DiskD}(h:d.steps<=d.room)(cl:Wl):Bd 0 d (iX d cl):=⟨h,ja _,kJ _ _ _⟩
theorem AC{d:DiskD}(h:d.steps<=d.room)(a:Int)(s:Wl):Bd 2 d (bJ d a s):=by
 have h1:=wY h;have j:=h1.trans (Q0 h1.1 a s);unfold bJ;split
 ·exact⟨h,by omega,rfl⟩
 ·split
  ·exact j.trans (AA j.1 _)
  ·split
   ·exact h1.mono (by omega)
   ·exact j
theorem xE{d:DiskD}(h:d.steps<=d.room):Bd 1 d (cK d):=by
 have h1:=wY h;unfold cK;split
 ·exact⟨h,by omega,rfl⟩
 ·split
  ·exact h1.trans (AA h1.1 _)
  ·split
   ·exact h1
   ·exact⟨h1.1,h1.2.1,oT _ _ _⟩
theorem II{d:DiskD}(h:d.steps<=d.room)(a:Int)(s:Wl):Bd 3 d (wsD d a s):=by
 have h1:=AC h a s;unfold wsD;split
 ·exact h1.mono (by omega)
 ·exact h1.trans (xE h1.1)
theorem ER:∀(L:List Wl) (d:DiskD) (a:Int),d.steps<=d.room->Bd (2*L.length+1) d (i8 d a L).2
 | [],d,a,h=>(xE h).mono (by simp)
 | s :: L,d,a,h=>by
  have h1:=AC h a s;unfold i8;split
  ·exact h1.mono (by simp;omega)
  ·exact(h1.trans (ER L _ _ h1.1)).mono (by simp;omega)
theorem ES{d:DiskD}(h:d.steps<=d.room)(f z:Int)(g:Nat)(l:List cL):Bd (2*l.length+1) d (dI d f z g l).2:=by
 unfold dI;split
 ·exact⟨h,by simp,rfl⟩
 ·split
  ·exact(ER _ _ _ h).mono (by simp)
  ·exact⟨h,by simp,rfl⟩
def iR(a b:Int):Int:=if a+b>9223372036854775807 then 9223372036854775807 else if a+b < -9223372036854775808 then -9223372036854775808 else a+b
theorem xF(a b:Int):aE (iR a b):=by unfold iR aE;split <;> (try split) <;> omega
theorem VM{a b:Int}(h:a=b):Ending.returned (.int .i64 a) = .returned (.int .i64 b):=by rw[h]
def ZX(w:Wd)(g:Nat)(z:Int)(w':Wd):Prop:=w'=w.setCell ⟨g,0,none⟩ (.int .i64 z)
theorem Q1(a b:Int)(g:Nat)(t:TypeId)(w:Wd)(ha:aE a)(hb:aE b)(D:Blk w g t #[.int .i64 a]):
  Wc 207 #[.int .i64 b,.pointer (some ⟨g,0,none⟩)] w λe w'=>e = .returned (.tuple #[])/\ZX w g (iR a b) w':=by
 have hc:=D.cell 0;have hf:=D.frozen 0;simp only[jf,jg] at hc;obtain⟨s,hs⟩:∃ s,wrap64 (a+b)=s:=⟨_,rfl⟩;have j:(-9223372036854775808<=a+b/\a+b<=9223372036854775807/\s=a+b)\/(9223372036854775807<a+b/\s=a+b-18446744073709551616)\/(a+b < -9223372036854775808/\s=a+b+18446744073709551616):=by
  rw[<- hs];unfold aE at ha hb;unfold wrap64;omega
 have HW:=jz j;have Z:=jz ha;have x:=jz hb;clear j ha hb D;have O:iR a b=if 9223372036854775807<a+b then 9223372036854775807 else if a+b < -9223372036854775808 then -9223372036854775808 else a+b:=rfl
 have HQ:=jz O;clear O;rcases jb (decide (0<=a)) with I|I <;> rcases jb (decide (0<=b)) with J|J <;> rcases jb (decide (s<0)) with K|K
 all_goals
  have R:decide (a<0) = !decide (0<=a):=by by_cases h:0<=a <;> simp[h] <;> omega
  have U:decide (b<0) = !decide (0<=b):=by by_cases h:0<=b <;> simp[h] <;> omega
  have V:decide (0<=s) = !decide (s<0):=by by_cases h:0<=s <;> simp[h] <;> omega
  rw[I] at R;rw[J] at U;rw[K] at V;simp only[Bool.not_true,Bool.not_false] at R U V;go_enter func207,ntmps207
  go_wp2_with fail
  go_end0
  refine⟨rfl,?_⟩;unfold ZX;rw[HQ.out];have h1:=HW.out;have h2:=Z.out;have h3:=x.out;unfold aE at h2 h3;simp only[decide_eq_true_eq,decide_eq_false_iff_not] at I J K
  first
   | (rw[jP (by omega)])
   | (rw[jQ (by omega),jP (by omega)])
   | (rw[jQ (by omega),jQ (by omega)];congr 2;omega)
theorem B8(a b:Int)(v:Value)(w:Wd)(ha:aE a)(hb:aE b)(hs:Sl w v [.int .i64 b]):
  Wc 151 #[.int .i64 a,v] w (Rt w (.int .i64 (iR a b))):=by
 obtain⟨A,cap,rfl,K,V⟩:=hs;obtain⟨bk,off,rfl,x⟩:=V (by simp);have D:=x 0 _ rfl;have O:=dW D;simp only[List.length_cons,List.length_nil,Nat.zero_add,Nat.add_zero] at D K O ⊢;have Z:=jz ha;have HB:=jz hb;have HC:=jz D;clear x V ha hb D;go_enter func151,ntmps151
 go_wp2_with fail
 go_loopw [11] (λi wr=>∃ k:Nat,k<=1/\i = .int .i64 k/\Blk wr w.heap.size 2 #[.int .i64 (if k=0 then a else iR a b)]/\Bw w wr) (λi _=>1-(intOf i).toNat)
 case atStart=>exact⟨0,by omega,rfl,Blk.new _ _ _,(ji _ _).alloc (ja _) _⟩
 case round=>
  obtain⟨k,hk,rfl,I,j⟩:=hrel;rcases jo k 1 with U|a0
  ·obtain rfl:k=0:=by omega
   rw[jP rfl] at I;have R:=j9 (w:=w) (w':=wr) ⟨j.os,j.tape,j.output,j.size,j.block⟩ HC.out;have HBl:=jz I;have J:=jz j;clear I j;go_wp2_with (go_at_call 207;refine(Q1 a b w.heap.size _ wr Z HB HBl).mono ?_;rintro e w' ⟨rfl,rfl⟩)
   exact⟨⟨1,by omega,by go_num,by rw[jQ (by omega)];exact HBl.set_ 0 _,J.out.setCell (ja _) _⟩,by simp[intOf]⟩
  ·obtain rfl:k=1:=by omega
   rw[jQ (by omega)] at I;have R:=I.cell 0;simp only[jf,jg] at R;go_wp2_with fail
   go_ret;exact⟨rfl,j⟩
def bOk(b:UInt8):Bool:=decide (33<=b.toNat) && decide (b.toNat<=126)
def eR(s:List UInt8):Bool:=decide (1<=s.length) && (decide (s.length<=100) && s.all bOk)
def cV(l:List UInt8):ByteArray:=⟨l.toArray⟩
theorem AD(l:List UInt8):(cV l).size=l.length:=by simp[cV,ByteArray.size]
theorem mP(w:Wd)(s:ByteArray)(p:Nat):Bw w (w.iter s p):=(ji _ _).alloc (ja _) _
theorem Q2(l:List UInt8)(k:Nat)(h:k<l.length):(l.take (k+1)).all bOk=((l.take k).all bOk && bOk l[k]):=by
 rw[j6 h,List.all_append];simp
theorem VN(l:List UInt8)(k:Nat)(h:k<l.length)(hb:bOk l[k]=false):l.all bOk=false:=by
 rw[Bool.eq_false_iff];intro ha;have:=List.all_eq_true.1 ha l[k] (List.getElem_mem h);rw[hb] at this;cases this
theorem o0(s:List UInt8)(w:Wd)(hs:s.length<=1000000000):Wc 285 #[.string (cV s)] w (Rt w (.bool (eR s))):=by
 have U:=AD s;obtain⟨S,hS⟩:=je (cV s);rw[<- hS] at U ⊢;have HS:=jz hS;have R:=jz U;clear hS U;have hq:eR s=(decide (1<=s.length) && (decide (s.length<=100) && s.all bOk)):=rfl;have HQ:=jz hq;clear hq;by_cases h1:s.length<1
 ·have K:Hid (eR s=false):=jz (by rw[HQ.out,decide_eq_false (by omega)];rfl);have t1:(S.size:Int)<1:=by have:=R.out;omega
  go_enter func285,ntmps285
  go_wp2_with fail
  go_ret;exact⟨by rw[K.out];rfl,ji _ _⟩
 by_cases h2:100<s.length
 ·have K:Hid (eR s=false):=jz (by rw[HQ.out,decide_eq_true (by omega),decide_eq_false (by omega)];rfl);have t1:¬(S.size:Int)<1:=by have:=R.out;omega
  have t2:(100:Int)<S.size:=by have:=R.out;omega
  go_enter func285,ntmps285
  go_wp2_with fail
  go_ret;exact⟨by rw[K.out];rfl,ji _ _⟩
 have K:Hid (eR s=s.all bOk):=jz (by rw[HQ.out,decide_eq_true (by omega),decide_eq_true (by omega)];rfl);have t1:¬(S.size:Int)<1:=by have:=R.out;omega
 have t2:¬(100:Int)<S.size:=by have:=R.out;omega
 go_enter func285,ntmps285
 go_wp2_with fail
 go_loopw [] (λw'=>∃ pos:Nat,w'=w.iter S pos/\pos<=s.length/\Hid ((s.take pos).all bOk=true)) (λw'=>s.length-w'.iterPos w.heap.size)
 case atStart=>exact⟨0,rfl,j0 _,jz rfl⟩
 case round=>
  obtain⟨pos,rfl,hp,HA⟩:=hrel;rcases jo pos s.length with I|a4
  ·have x:pos<S.size:=by rw[R.out];exact I
   have j:S[pos]'(x)=s[pos]:=by have:=HS.out;subst this;rfl
   have a1:=jz (Q2 s pos I);have O:=jz (VN s pos I);by_cases ha:s[pos].toNat<128
   ·have J:∀ ty,(Instr.next (.pointer (some ⟨w.heap.size,0,none⟩)) true ty).run prog (w.iter S pos) = .ok (.tuple #[.bool true,.int .i64 pos,.int .i32 (s[pos].toNat:Nat)]) (w.iter S (pos+1)):=λty=>by
     rw[run_next_ascii w S pos ty x (by rw[j];exact ha),j]
    have a0:bOk s[pos]=(decide (33<=s[pos].toNat) && decide (s[pos].toNat<=126)):=rfl;have D:=jz a0;obtain⟨c,Z⟩:=je (s[pos].toNat);rw[<- Z] at J ha D;clear Z a0 j;by_cases hc1:c<33
    ·have V:Hid (s.all bOk=false):=jz (O (by rw[D.out,decide_eq_false (by omega)];rfl));have u1:(c:Int)<33:=by omega
     go_wp2_with fail
     go_ret;exact⟨by rw[K.out,V.out];rfl,mP _ _ _⟩
    ·have u1:¬(c:Int)<33:=by omega
     by_cases hc2:126<c
     ·have V:Hid (s.all bOk=false):=jz (O (by rw[D.out,decide_eq_true (by omega),decide_eq_false (by omega)];rfl));have u2:(126:Int)<c:=by omega
      go_wp2_with fail
      go_ret;exact⟨by rw[K.out,V.out];rfl,mP _ _ _⟩
     ·have HT:Hid ((s.take (pos+1)).all bOk=true):=jz (by rw[a1.out,HA.out,D.out,decide_eq_true (by omega),decide_eq_true (by omega)];rfl);have u2:¬(126:Int)<c:=by omega
      go_wp2_with fail
      exact⟨⟨pos+1,rfl,I,HT⟩,by simp;omega⟩
   ·have a2:=(decode_high S pos x (by rw[j];omega)).1;have a3:=decode_le S pos;have J:∀ ty,(Instr.next (.pointer (some ⟨w.heap.size,0,none⟩)) true ty).run prog (w.iter S pos) = .ok (.tuple #[.bool true,.int .i64 pos,.int .i32 ((Utf8.decode S pos).1:Nat)]) (w.iter S (pos+(Utf8.decode S pos).2)):=λty=>run_next_any w S pos ty x
    have V:Hid (s.all bOk=false):=jz (O (by
     unfold bOk
     rw[decide_eq_false (p:=s[pos].toNat<=126) (by omega)]
     simp))
    obtain⟨c,Z⟩:=je ((Utf8.decode S pos).1);rw[<- Z] at J a2 a3;clear Z ha j;have u1:¬(c:Int)<33:=by omega
    have u2:(126:Int)<c:=by omega
    go_wp2_with fail
    go_ret;exact⟨by rw[K.out,V.out];rfl,mP _ _ _⟩
  ·obtain rfl:pos=s.length:=by omega
   rw[List.take_length] at HA;have J:∀ ty,(Instr.next (.pointer (some ⟨w.heap.size,0,none⟩)) true ty).run prog (w.iter S s.length) = .ok (.tuple #[.bool false]) (w.iter S s.length):=λty=>run_next_end w S s.length ty (by rw[R.out];omega)
   go_wp2_with fail
   go_ret;exact⟨by rw[K.out,HA.out];rfl,mP _ _ _⟩
def cY(l:List Nat):Wl:=l.map (λx:Nat=>(x:Int))
theorem aV(l:List Nat):(cY l).length=l.length:=List.length_map _
theorem fK(l:List Nat):n8 l=u8s (cY l):=by
 unfold n8 u8s cY;rw[List.map_map];rfl
theorem l9{l:List Nat}(h:Byn l):Bys (cY l):=λx j=>by
 unfold cY at j;obtain⟨y,hy,rfl⟩:=List.mem_map.1 j;have:=h y hy;constructor <;> omega
theorem ET:∀ {a b:List Nat},cY a=cY b->a=b
 | [],[],_=>rfl
 | [],_ :: _,h=>by simp[cY] at h
 | _ :: _,[],h=>by simp[cY] at h
 | x :: a,y :: b,h=>by
  simp only[cY,List.map_cons,List.cons.injEq] at h;rw[ET h.2,show x=y by omega]
theorem NB(v1 v2:Value)(a b:List Nat)(w:Wd)(h1:Sn w 1 v1 a.length (n8 a))(I:Sn w 1 v2 b.length (n8 b))(ha:Byn a)(hb:Byn b):
  Wc 282 #[v1,v2] w λe w'=>e = .returned (.bool (decide (a=b)))/\w'=w:=by
 have D:=jz (sV v1 v2 (cY a) (cY b) w (by rw[aV,<- fK];exact h1) (by rw[aV,<- fK];exact I) (l9 ha) (l9 hb));have x:Hid (decide (cY a=cY b)=decide (a=b)):=jz (decide_eq_decide.2 ⟨ET,λh=>by rw[h]⟩);rw[x.out] at D;clear h1 I ha hb x;go_enter func282,ntmps282
 go_wp2_with fail
 refine(D).mono ?_;rintro e J ⟨rfl,j⟩;rw[j];clear j J;go_wp2_with fail
 go_ret;exact⟨rfl,rfl⟩
def zC32:Wa:=(arr 32 (c8 λ_=>0)).toArray
theorem B9:∀ w,(zeroValue 25).run prog w = .ok (.agg zC32) w:=λw=>by unfold zC32;kernel_rfl
theorem NC(vk vc va:Value)(key code:List Nat)(ps:List (Value×List Nat))(w:Wd)(hs:Sn w 1 vk key.length (n8 key))(a7:Byn key)(a8:key.length<=64)(hP:PN w va ps)(hn:ps.length<=100)(ht:(cQ ps).length<=800000000)(hk:TabK w)
  (hc:Sn w 1 vc code.length (n8 code)) (a6:Byn code) (c6:16<=code.length) (c7:code.length<=32):
  Wc 220 #[vk,vc,va] w (Rt w (.bool (decide (code=(jI key (cQ ps)).take code.length)))):=by
 obtain⟨Ac,a0,rfl,K,_,_⟩:=id hc;have HS:=jz (vW vk va key ps w hs a7 a8 hP hn ht hk);have HC:=jz hc;have c3:=jz a6;obtain⟨c,D⟩:=je code.length;rw[<- D] at c6 c7 K;have d7:¬(c:Int)<16:=by omega
 have e0:¬(32:Int)<c:=by omega
 have e1:(c:Int)<=32:=by omega
 have d5:(0:Int)<=c:=by omega
 have Z:=jz D;have d2:prog.arrayLen 25=32:=by kernel_rfl
 rw[<- D];clear hs a7 a8 hP hn ht hk hc a6 D;go_enter func220,ntmps220
 go_wp2_with fail
 refine(HS).mono ?_;rintro e R ⟨rfl,a3⟩;obtain⟨M,hM⟩:=je (n8 (jI key (cQ ps)));have O:M.length=32:=by rw[hM,aS];exact dF _
 rw[<- hM];have c9:(prog.info? 25).map (·.size)=some M.toArray.size:=by rw[js,O];kernel_rfl
 have d0:zC32.size=M.toArray.size:=by rw[show M.toArray.size=32 from by rw[js,O]];exact aL 32 _
 have d1:M.toArray.all (·.oneCell')=true:=by rw[hM];exact all_oneCell_toArray (dU _)
 have c2:Blk (R.alloc (.cells zC32 25)) R.heap.size 25 zC32:=Blk.new _ _ _;have V:=jz a3;have HM:=jz hM;clear a3 hM O;go_wp2_with (first
  | (refine al 25 _ rfl rfl B9 ?_)
  | (refine aP 25 (.tmp 7) (.tmp 18) rfl rfl rfl rfl c2 c9 d0 d1 ?_;intro w9 a1 a4 _ _;have b1:=jz a1;have c4:=jz a4;clear a1 a4))
 have a5:Bw R w9:=((ji _ R).alloc (ja _) _).trans c4.out;have J:Bw w w9:=V.trans (a5.mono V.size);have c5:Hid ((jI key (cQ ps)).length=32):=jz (dF _);have a9:((jI key (cQ ps)).take c).length=c:=by rw[jv,c5.out];omega
 have a2:Sn w9 1 (.slice (some ⟨R.heap.size,0,none⟩) c 32) ((jI key (cQ ps)).take c).length (n8 ((jI key (cQ ps)).take c)):=by
  rw[a9];refine⟨_,32,rfl,by omega,by rw[aS,a9,Nat.mul_one],λ_=>⟨R.heap.size,0,rfl,λj u U=>?_⟩⟩;have h:=b1.range j u;rw[jt,HM.out] at h;refine h ?_;unfold n8 at U ⊢;rw[List.map_take,List.getElem?_take] at U;by_cases e:j<c
  ·rw[jP e] at U;exact U
  ·rw[jQ e] at U;cases U
 have I:Sn w9 1 (.slice Ac code.length a0) code.length (n8 code):=HC.below J;refine(NB _ _ code ((jI key (cQ ps)).take c) w9 (by rw[<- Z.out];rw[<- Z.out] at I;exact I) a2 c3 (λx hx=>kO _ x (j7 hx))).mono ?_;rintro e w7 ⟨rfl,b0⟩;rw[b0];clear b0 w7;have b7:=jz J;clear J a5 I a2;go_wp2_with fail
 go_ret;exact⟨rfl,b7⟩
end
section
open Go.RowKit
def bsI(xs:Wl):Bs:=xs.map λx=>UInt8.ofNat x.toNat
theorem mQ(j:Wl):(bsI j).length=j.length:=List.length_map _
structure Nm where
 realm:Bs
 parts:List Bs
def nm0:Nm:=⟨[],[]⟩
structure NmOk(n:Nm):Prop where
 realm:eR n.realm=true
 parts:∀ p∈n.parts,eR p=true
 few:1<=n.parts.length/\n.parts.length<=8
theorem iC{p:Bs}(h:eR p=true):1<=p.length/\p.length<=100:=by
 unfold eR at h;simp only[Bool.and_eq_true,decide_eq_true_eq] at h;exact⟨h.1,h.2.1⟩
def iL:Nat->RdS->List Bs->Option (List Bs)×RdS
 | 0,s,acc=>(some acc,s)
 | k+1,s,acc=>if eR (bsI (bF 1 s).1) then iL k (bF 1 s).2 (acc++[bsI (bF 1 s).1]) else (none,(bF 1 s).2)
def eE(s:RdS):(Nm×Bool)×RdS:=
 if eR (bsI (bF 1 s).1)=false then ((nm0,false),(bF 1 s).2)
 else if (aI 1 (bF 1 s).2).1<1\/8<(aI 1 (bF 1 s).2).1 then ((nm0,false),(aI 1 (bF 1 s).2).2)
 else match iL (aI 1 (bF 1 s).2).1 (aI 1 (bF 1 s).2).2 [] with
  | (some ps,s')=>((⟨bsI (bF 1 s).1,ps⟩,!s'.2),s')
  | (none,s')=>((nm0,false),s')
theorem xG:∀(k:Nat) (s:RdS) (acc:List Bs),RdOk s->RdOk (iL k s acc).2
 | 0,s,acc,h=>h
 | k+1,s,acc,h=>by
  unfold iL;split
  ·exact xG k _ _ (h.str 1)
  ·exact h.str 1
theorem uP{s:RdS}(h:RdOk s):RdOk (eE s).2:=by
 unfold eE;split
 ·exact h.str 1
 split
 ·exact(h.str 1).num 1
 ·have:=xG (aI 1 (bF 1 s).2).1 (aI 1 (bF 1 s).2).2 [] ((h.str 1).num 1);split
  ·rename_i j;rw[j] at this;exact this
  ·rename_i j;rw[j] at this;exact this
theorem qY:∀(k:Nat) (s:RdS) (acc ps:List Bs),(iL k s acc).1=some ps->(∀ p∈acc,eR p=true)->ps.length=acc.length+k/\∀ p∈ps,eR p=true
 | 0,s,acc,ps,h,ha=>by
  have:acc=ps:=Option.some.inj h;subst this;exact⟨rfl,ha⟩
 | k+1,s,acc,ps,h,ha=>by
  unfold iL at h;split at h
  ·rename_i x;have:=qY k _ _ ps h (λp j=>by
    rcases List.mem_append.1 j with h1|h1
    ·exact ha p h1
    ·simp at h1;subst h1;exact x)
   rw[jj,List.length_singleton] at this;exact⟨by omega,this.2⟩
  ·cases h
theorem AE{s:RdS}(h:(eE s).1.2=true):NmOk (eE s).1.1:=by
 unfold eE at h ⊢;split at h
 ·cases h
 rename_i x;rw[jQ x];split at h
 ·cases h
 rename_i D;rw[jQ D];split at h
 ·rename_i ps s' j;have:=qY _ _ _ ps (by rw[j]) (λp I=>by cases I);exact⟨by simpa using x,this.2,by simp at this;show 1<=ps.length/\ps.length<=8;omega⟩
 ·cases h
def lT(p:Bs):List Nat:=p.length :: p.map (·.toNat)
def nmN(n:Nm):List Nat:=lT n.realm++n.parts.length :: n.parts.flatMap lT
theorem EU{p:Bs}(h:eR p=true):(lT p).length<=101:=by
 have:=iC h;unfold lT;simp;omega
theorem EV{p:Bs}(h:eR p=true):Byn (lT p):=λx j=>by
 have:=iC h;unfold lT at j;rcases List.mem_cons.1 j with h1|h1
 ·omega
 ·obtain⟨b,_,rfl⟩:=List.mem_map.1 h1;exact b.toNat_lt
theorem EW:∀(l:List Bs),(∀ p∈l,eR p=true)->(l.flatMap lT).length<=101*l.length
 | [],_=>by simp
 | p :: l,h=>by
  have h1:=EU (h p (by simp));have x:=EW l (λq j=>h q (by simp[j]));rw[List.flatMap_cons,jj,List.length_cons];omega
theorem Q3{l:List Bs}(h:∀ p∈l,eR p=true):Byn (l.flatMap lT):=λx D=>by
 obtain⟨p,j,h1⟩:=List.mem_flatMap.1 D;exact EV (h p j) x h1
theorem CB{n:Nm}(h:NmOk n):(nmN n).length<=1000:=by
 have h1:=EU h.realm;have j:=EW n.parts h.parts;have x:=h.few;unfold nmN;rw[jj,List.length_cons];omega
theorem VO{n:Nm}(h:NmOk n):Byn (nmN n):=λx j=>by
 have D:=h.few;unfold nmN at j;rcases List.mem_append.1 j with h1|h1
 ·exact EV h.realm x h1
 rcases List.mem_cons.1 h1 with h1|h1
 ·omega
 ·exact Q3 h.parts x h1
end
section
open Go.RowKit
attribute [local irreducible] wpQuiet wpAnyH
def z8x8:Wa:=(arr 8 (c8 λ_=>0)).toArray
theorem CC:∀ w,(zeroValue 308).run prog w = .ok (.agg z8x8) w:=λw=>by unfold z8x8;kernel_rfl
def lD(s:List Nat):Nat->Nat:=if 24<=s.length then nth s else λ_=>0
theorem AF(v:Value)(s:List Nat)(w:Wd)(hs:Sn w 1 v s.length (n8 s)):Wc 218 #[v] w (Rt w (.tuple #[.agg (arr 8 (c8 (lD s))).toArray,.bool (decide (24<=s.length))])):=by
 have c2:=jz hs;obtain⟨A,cap,rfl,b0,_,_⟩:=hs;obtain⟨n,hn⟩:=je s.length;have HN:=jz hn;rw[<- hn] at b0 ⊢;clear hn;have c5:prog.arrayLen 308=8:=by kernel_rfl
 go_enter func218,ntmps218
 go_upto_region 2 with (refine al 308 _ rfl rfl CC ?_)
 obtain⟨g,hg⟩:=je w.heap.size;obtain⟨w1,a7⟩:=je ((w.alloc (.cells z8x8 308)).alloc (.cells z8x8 308));have R:Hid (Bw w w1/\w.heap.size<=g/\AB w1 g 308 8 (c8 λ_=>0)/\AB w1 (g+1) 308 8 (c8 λ_=>0)):=jz (by
  rw[a7,hg]
  exact⟨((ji _ w).alloc (ja _) _).alloc (by simp) _,ja _,(Blk.new _ _ _).alloc _,Blk.newAt _ _ _ _ (by simp)⟩)
 rw[<- a7];simp only[World.size_alloc,<- hg];clear a7 hg;rcases jo n 24 with c3|a2
 ·have hi:(n:Int)<24:=by omega
  have x:=R.out.2.2.2.range;have V:Blk w1 g 308 z8x8:=R.out.2.2.1;have O:=QW (L:=arr 8 (c8 λ_=>0)) (aB _ _);have HF:Hid (lD s=(λ_=>0)):=jz (by unfold lD;rw[jQ (by rw[<- HN.out];omega)]);have HD:Hid (decide (24<=n)=false):=jz (decide_eq_false (by omega));obtain⟨M,I⟩:=je (arr 8 (c8 λ_=>0));rw[<- I] at x O;have a4:(prog.info? 308).map (·.size)=some M.toArray.size:=by rw[js];exact O
  have a5:z8x8.size=M.toArray.size:=by rw[I,aL];exact aL 8 _
  have a6:M.toArray.all (·.oneCell')=true:=by rw[I];exact bY (λ_=>rfl)
  have a0:=jz I;clear I c3;go_wp2_with (first
   | (refine ld 308 (.tmp 4) rfl rfl rfl x underlying308 rfl O ?_)
   | (refine aP 308 (.tmp 2) (.tmp 8) rfl rfl rfl rfl V a4 a5 a6 ?_;intro w9 D J _ _;have U:=jz D;have Z:=jz J;clear D J))
  have a3:w9.rangeAt g 0 M:=by have:=U.range;rwa [jt] at this
  exact bodyPost_ret (aC rfl _ rfl a3 underlying308 rfl O) rfl ⟨by rw[HF.out,HD.out,<- a0.out];rfl,R.out.1.trans (Z.mono R.out.2.1)⟩
 ·have hi:¬(n:Int)<24:=by omega
  have HD:Hid (decide (24<=n)=true):=jz (decide_eq_true a2);have HF:Hid (lD s=nth s):=jz (by unfold lD;rw[jP (by rw[<- HN.out];exact a2)]);obtain⟨A',c4,hv,_,_,hx⟩:=c2.below R.out.1;injection hv with hA _ _
  subst hA;obtain⟨b,off,rfl,hr⟩:=hx (by rw[<- HN.out];omega);obtain⟨T,hT⟩:=je (s.take 8);have a1:T.length=8:=by rw[hT,jv,<- HN.out];omega
  have x:w1.rangeAt b off (n8 T):=λj u hj=>by
   refine hr j u ?_;rw[hT] at hj;unfold n8 at hj ⊢;rw[List.map_take,List.getElem?_take] at hj;by_cases e:j<8
   ·rw[jP e] at hj;exact hj
   ·rw[jQ e] at hj;cases hj
  have b1:(n8 T).length=Nat.min n 8:=by rw[aS,a1];exact(Nat.min_eq_right (by omega)).symm
  have b7:w1.there (g+1) 0 (n8 T).length:=by rw[aS,a1];exact R.out.2.2.2.there (by omega)
  obtain⟨w3,a8⟩:=je (w1.setCells (g+1) 0 (n8 T));have K:Hid (Bw w w3/\w.heap.size<=g/\AB w3 g 308 8 (c8 λ_=>0)/\AB w3 (g+1) 308 8 (c8 (nth s))):=jz (by
   have h:=R.out
   rw[a8]
   refine⟨Below.setS (by have:=h.2.1;omega) _ _ h.1,h.2.1,h.2.2.1.farS (by omega) _ _,(h.2.2.2.setL T).ext (λq hq=>?_)⟩
   show Value.int .u8 ((if 0<=q/\q<0+T.length then nth T (q-0) else 0:Nat):Int)=Value.int .u8 ((nth s q:Nat):Int)
   rw[jP (by omega),Nat.sub_zero,hT]
   unfold nth
   rw[jn,jn,List.getElem?_take,jP hq])
  have a9:=jz a8;clear hx hr a8 hT a1 a2 R;go_upto_region 5 with (refine cpm (.tmp 9) (.tmp 10) rfl (by rfl) (cs:=n8 T) (b:=g+1) (off:=0) (dn:=8) (dc:=8) (by rfl) (by rfl) underlying68 (by kernel_rfl) b1 x b7 (dU T) ?_)
  rw[<- a9.out];clear a9 x b1 b7;have x:=K.out.2.2.2.range;have V:Blk w3 g 308 z8x8:=K.out.2.2.1;have O:=QW (L:=arr 8 (c8 (nth s))) (aB _ _);obtain⟨M,I⟩:=je (arr 8 (c8 (nth s)));rw[<- I] at x O;have a4:(prog.info? 308).map (·.size)=some M.toArray.size:=by rw[js];exact O
  have a5:z8x8.size=M.toArray.size:=by rw[I,aL];exact aL 8 _
  have a6:M.toArray.all (·.oneCell')=true:=by rw[I];exact bY (λ_=>rfl)
  have a0:=jz I;clear I
  try simp only[jq]
  go_wp2_with (first
   | (refine ld 308 (.tmp 4) rfl rfl rfl x underlying308 rfl O ?_)
   | (refine aP 308 (.tmp 2) (.tmp 12) rfl rfl rfl rfl V a4 a5 a6 ?_;intro w9 D J _ _;have U:=jz D;have Z:=jz J;clear D J))
  have a3:w9.rangeAt g 0 M:=by have:=U.range;rwa [jt] at this
  exact bodyPost_ret (aC rfl _ rfl a3 underlying308 rfl O) rfl ⟨by rw[HF.out,HD.out,<- a0.out];rfl,K.out.1.trans (Z.mono K.out.2.1)⟩
theorem ZY:SlT prog 77 9 1 16:=SlT.mk' underlying77 (z:=.string ByteArray.empty) (by kernel_rfl) rfl (by decide)
def fF(l:List Bs):Wv:=l.map λp=>.string (cV p)
theorem YD{p:Wl}(h:Bys p)(j:Nat)(x:j<p.length)(D:j<(bsI p).length):(((bsI p)[j]).toNat:Int)=p[j]:=by
 have:=h _ (List.getElem_mem x);have e:(bsI p)[j]=UInt8.ofNat (p[j]).toNat:=by simp[bsI]
 rw[e,UInt8.toNat_ofNat'];omega
theorem K3{w:Wd}{p:Wl}{A:Option Addr}{cap:Nat}(h:Sn w 1 (.slice A p.length cap) p.length (u8s p))(hb:Bys p):(convert 68 9 (.slice A p.length cap)).run prog w = .ok (.string (cV (bsI p))) w:=by
 obtain⟨R,D,hv,_,_,I⟩:=h;injection hv with hA _ _
 subst hA;cases A with
 | none=>
  have O:p=[]:=by
   rcases Nat.eq_zero_or_pos p.length with h|h
   ·exact List.eq_nil_of_length_eq_zero h
   ·obtain⟨b,off,e,_⟩:=I h;cases e
  subst O;rw[run_convert_bytes_nil w 68 5 underlying68 underlying5 _ _ _ underlying9];rfl
 | some a=>
  have:=run_convert_bytes_back w 68 9 5 a cap (bsI p) underlying68 underlying5 underlying9 (λj K=>by
   have x:j<p.length:=by rw[<- mQ];exact K
   obtain⟨b,off,e,J⟩:=I (by omega)
   injection e with e
   subst e
   rw[Addr.add_lit,YD hb j x]
   exact J j _ (by simp[u8s,x]))
  rw[mQ] at this;exact this
def nmZ:Wa:=#[.string ByteArray.empty,.slice none 0 0]
def NmP(w:Wd)(n:Nm)(ok:Bool)(e:Ending)(w':Wd):Prop:=∃ v,e = .returned (.tuple #[.agg #[.string (cV n.realm),v],.bool ok])/\w'.ownsRow w.heap.size 9 1 v n.parts.length (fF n.parts)
theorem VP{B:Nat}{w:Wd}{r:Nat}{s:RdS}(h:RDB B w r s):Wc 286 #[.pointer (some ⟨r,0,none⟩)] w λe w'=>e = .returned (.bool s.2)/\w'=w:=by
 obtain⟨v,h1,_⟩:=h;have j:=h1.1.cell 1;simp only[jf,jh,jg] at j;clear h1;go_enter func286,ntmps286
 go_wp2_with fail
 go_ret;exact⟨rfl,rfl⟩
theorem Off.put{r g:Nat}{w W:Wd}(h:Off r w W)(hg:w.heap.size<=g)(i:Nat)(u:Value):Off r w (W.setCell ⟨g,i,none⟩ u):=
 ⟨h.os,h.tape,h.output,by simpa using h.size,λk x j=>(Below.heap_setCell W ⟨g,i,none⟩ u k (by show k≠g;omega)).trans (h.block k x j)⟩
theorem RDB.put{B:Nat}{W:Wd}{r g:Nat}{s:RdS}(h:RDB B W r s)(hr:r≠g)(hg:B<=g)(i:Nat)(u:Value):RDB B (W.setCell ⟨g,i,none⟩ u) r s:=h.off ((Off.refl g W).set i u) hr hg
theorem Off.puts{r g:Nat}{w:Wd}:∀(vs:Wv) (o:Nat) {W:Wd},Off r w W->w.heap.size<=g->Off r w (W.setCells g o vs)
 | [],o,W,h,hg=>h
 | u :: vs,o,W,h,hg=>Off.puts vs (o+1) (h.put hg o u) hg
theorem Off.putsR(g:Nat){w:Wd}:∀(vs:Wv) (o:Nat) {W:Wd},Off g w W->Off g w (W.setCells g o vs)
 | [],o,W,h=>h
 | u :: vs,o,W,h=>Off.putsR g vs (o+1) (h.set o u)
theorem iD{w:Wd}{g t n:Nat}{cs:Wa}(h:Blk w g t cs)(D:n<=cs.size):w.there g 0 n:=λj x=>⟨by rw[Nat.zero_add,h.cell,Array.getElem?_eq_getElem (by omega)];rfl,h.frozen _⟩
theorem cJ{w:Wd}{base e s n g t:Nat}{v:Value}{J:Wv}{cs:Wa}(I:w.ownsRow base e s v n J)(x:Blk w g t cs)(j:t≠e):some g≠v.ownBlock:=λh=>by
 obtain⟨_,h1|⟨K,cap,D,rfl,_,hg,_⟩⟩:=I
 ·rw[h1.1] at h;cases h
 ·injection h with h
  subst h;unfold Blk at x;rw[x] at hg;injection hg with hg
  injection hg with _ hg _
  exact j hg
theorem k5{w w':Wd}{base e s n g t:Nat}{v:Value}{I:Wv}{cs:Wa}(hg:w.grownBy w' v.ownBlock)(D:w.ownsRow base e s v n I)(j:Blk w g t cs)(x:t≠e):Blk w' g t cs:=(hg.block g j.lt (cJ D j x)).trans j
theorem Off.grownO{r:Nat}{w W W':Wd}{base e s n:Nat}{v:Value}{I:Wv}(h:Off r w W)(D:W.ownsRow base e s v n I)(hb:w.heap.size<=base)(hg:W.grownBy W' v.ownBlock):Off r w W':=
 ⟨hg.os.trans h.os,hg.tape.trans h.tape,hg.output.trans h.output,jm h.size hg.size,λk x j=>(hg.block k (jp x h.size) (λe=>by have:=(D.lt k e.symm).1;omega)).trans (h.block k x j)⟩
theorem RDB.grown{B:Nat}{W W':Wd}{r:Nat}{s:RdS}{base e x n:Nat}{v:Value}{D:Wv}(h:RDB B W r s)(j:W.ownsRow base e x v n D)(I:B<=base)(J:r<base)(hg:W.grownBy W' v.ownBlock):RDB B W' r s:=by
 cases hv:v.ownBlock with
 | none=>
  rw[hv] at hg;exact h.keep ((ji _ W).grown hg (ja _) (λb h=>by cases h))
 | some g=>
  have h1:=(j.lt g hv).1;rw[hv] at hg;exact h.off (Off.of_grown hg) (by omega) (by omega)
structure NrX(B:Nat)(w wr:Wd)(r gn g2 k N:Nat)(S:ByteArray)(v:Value)(s:RdS)(acc:List Bs)(R:Option (List Bs)×RdS):Prop where
 rd:RDB B wr r s
 ok:RdOk s
 n:Blk wr gn 121 #[.string S,v]
 z:Blk wr g2 121 nmZ
 off:Off r w wr
 own:wr.ownsRow w.heap.size 9 1 v k (fF acc)
 len:acc.length=k
 eq:iL (N-k) s acc=R
theorem n9:(prog.info? 121).map (·.size)=some 2:=by kernel_rfl
theorem AG{B:Nat}{w:Wd}{r:Nat}{s:RdS}(h:RDB B w r s)(hB:B<=w.heap.size)(hs:RdOk s):Wc 222 #[.pointer (some ⟨r,0,none⟩)] w λe w'=>Off r w w'/\RDB B w' r (eE s).2/\NmP w (eE s).1.1 (eE s).1.2 e w':=by
 have h9:=h.lt;have HR:=jz h;have d0:=jz hs;have HQ:Hid (eE s=if eR (bsI (bF 1 s).1)=false then ((nm0,false),(bF 1 s).2)
  else if (aI 1 (bF 1 s).2).1<1\/8<(aI 1 (bF 1 s).2).1 then ((nm0,false),(aI 1 (bF 1 s).2).2)
  else match iL (aI 1 (bF 1 s).2).1 (aI 1 (bF 1 s).2).2 [] with
   | (some ps,s')=>((⟨bsI (bF 1 s).1,ps⟩,!s'.2),s')
   | (none,s')=>((nm0,false),s')):=jz (by unfold eE;rfl)
 obtain⟨Z,hZ⟩:=je (eE s);rw[<- hZ] at HQ ⊢;clear hZ h hs;have a7:Hid (r<w.heap.size/\B<=w.heap.size):=jz ⟨h9,hB⟩;clear h9 hB;obtain⟨PQ,h4⟩:∃ q,q=fun(e:Ending) (w':Wd)=>Off r w w'/\RDB B w' r Z.2/\NmP w Z.1.1 Z.1.2 e w':=⟨_,rfl⟩
 have n4:=jz h4;rw[<- h4];clear h4;go_enter func222,ntmps222
 go_upto_region 1 with fail
 obtain⟨w1,d1⟩:=je (w.alloc (.cells nmZ 121));obtain⟨I,h6⟩:=je w.heap.size;have k2:Hid (Bw w w1):=jz (by rw[d1];exact aH _ _);have k4:Hid (Blk w1 I 121 nmZ):=jz (by rw[d1,h6];exact Blk.new _ _ _);have j:Hid (w.heap.size<=I/\r≠I/\B<=I):=jz (by have:=a7.out;exact⟨by omega,by omega,by omega⟩);have r1:w.alloc (.cells #[.string { data:=#[] },.slice none 0 0] 121)=w1:=d1.symm;rw[r1,<- h6];clear d1 r1 h6;have g3:=jz (pZ 1 (HR.keep k2) d0 (by omega) (by omega));have f9:=jz (d0.str 1);have f3:=jz (jZ d0 1);obtain⟨x1,r2⟩:=je (bF 1 s);rw[<- r2] at g3 f9 f3 HQ;clear r2;go_wp2_with fail
 refine g3.mono ?_;rintro e w2 ⟨J,q5,y,rfl,a2,h5⟩;obtain⟨A,ca,rfl,_⟩:=id a2;have c3:=K3 a2 f3.out.1;have n6:=jz q5;have f2:=jz (J.blk k4 (Ne.symm j.out.2.1));have a8:Hid (Off r w w2):=jz ((Off.of_below k2).trans J);obtain⟨S,hS⟩:=je (cV (bsI x1.1));rw[<- hS] at c3;have q2:=jz hS;clear J q5 a2 h5 g3 hS;go_upto_region 2 with fail
 obtain⟨w3,d2⟩:=je (w2.alloc (.cells #[.string S,.slice none 0 0] 121));obtain⟨gn,h8⟩:=je w2.heap.size;have c5:Hid (Bw w2 w3):=jz (by rw[d2];exact aH _ _);have f5:Hid (Blk w3 gn 121 #[.string S,.slice none 0 0]):=jz (by rw[d2,h8];exact Blk.new _ _ _);have a0:Hid (I≠gn/\r≠gn/\w.heap.size<=gn/\B<=gn):=jz (by have:=f2.lt;have:=a8.size;have:=a7.out;exact⟨by omega,by omega,by omega,by omega⟩);rw[<- d2,<- h8];clear d2 h8 c3;have m1:=jz (f2.keep c5);have q0:=jz (n6.keep c5);have d7:Hid (Off r w w3):=jz (a8.trans (Off.of_below c5));have n0:=f5.cell 0;simp only[jf,jh,jg] at n0;have a1:=jz (o0 (bsI x1.1) w3 (by rw[mQ];have:=f3.out.2;have:=d0.len;omega));rw[<- q2.out] at a1;go_wp2_with fail
 refine a1.mono ?_;rintro e w4 ⟨rfl,c2⟩;have K:=jz (m1.keep c2);have m4:=jz (f5.keep c2);have g0:=jz (q0.keep c2);have a9:Hid (Off r w w4):=jz (d7.trans (Off.of_below c2));clear c2 n0 a1 k4 f2 m1 n6 q0 f5 a8 d7 c5;have a3:Hid (∀(W:Wd) (s':RdS),Blk W I 121 nmZ->Off r w W->RDB B W r s'->Z=((nm0,false),s') ->
   PQ (.returned (.tuple #[.agg nmZ,.bool false])) ((W.setCell ⟨I,0,none⟩ (.string ByteArray.empty)).setCell ⟨I,1,none⟩ (.slice none 0 0))):=jz (λW s' hk J hr hz=>by
  rw[n4.out,hz]
  exact⟨(J.put j.out.1 _ _).put j.out.1 _ _,(hr.put j.out.2.1 j.out.2.2 _ _).put j.out.2.1 j.out.2.2 _ _,_,rfl,World.ownsRow_nil _ _ _ _⟩)
 have a5:Hid (∀(W:Wd),Blk W I 121 nmZ->((W.setCell ⟨I,0,none⟩ (.string ByteArray.empty)).setCell ⟨I,1,none⟩ (.slice none 0 0)).rangeAt I 0 [.string ByteArray.empty,.slice none 0 0]):=jz (λW hk=>((hk.set_ 0 (.string ByteArray.empty)).set_ 1 (.slice none 0 0)).range);have k0:=K.cell 0;have k1:=K.cell 1;have f0:=K.frozen 0;have f1:=K.frozen 1;simp only[nmZ,jf,jh,jg] at k0 k1;cases hw:eR (bsI x1.1) with
 | false=>
  have HZ:Hid (Z=((nm0,false),x1.2)):=jz (by rw[HQ.out,jP hw]);clear hw;go_wp2_with fail
  refine bodyPost_ret (aC (P:=prog) (cs:=[.string ByteArray.empty,.slice none 0 0]) rfl _ rfl (a5 _ K) underlying121 rfl n9) rfl ?_;exact a3 _ _ K a9 g0 HZ.out
 | true=>
  rw[jQ (by rw[hw];decide)] at HQ;have f8:=jz (fR 1 g0 f9 (by omega) (by omega));have c9:=jz (f9.num 1);have t4:=jz hw;obtain⟨x2,r3⟩:=je (aI 1 x1.2);rw[<- r3] at f8 c9 HQ;clear r3 hw k0 k1 f0 f1;go_wp2_with fail
  refine f8.mono ?_;rintro e w5 ⟨J,q6,rfl⟩;have x:=jz (J.blk K (Ne.symm j.out.2.1));have m5:=jz (J.blk m4 (Ne.symm a0.out.2.1));have b1:=jz q6;have a4:=jz (a9.trans J);obtain⟨N,s2⟩:=x2;simp only at HQ b1 c9 ⊢;clear J q6 f8 K m4 g0 a9;have k0:=x.cell 0;have k1:=x.cell 1;have f0:=x.frozen 0;have f1:=x.frozen 1;simp only[nmZ,jf,jh,jg] at k0 k1;by_cases hN1:N<1
  ·have HZ:Hid (Z=((nm0,false),s2)):=jz (by rw[HQ.out,jP (.inl hN1)]);have t1:(N:Int)<1:=by omega
   go_wp2_with fail
   refine bodyPost_ret (aC (P:=prog) (cs:=[.string ByteArray.empty,.slice none 0 0]) rfl _ rfl (a5 _ x) underlying121 rfl n9) rfl ?_;exact a3 _ _ x a4 b1 HZ.out
  by_cases hN8:8<N
  ·have HZ:Hid (Z=((nm0,false),s2)):=jz (by rw[HQ.out,jP (.inr hN8)]);have t1:¬(N:Int)<1:=by omega
   have t2:(8:Int)<N:=by omega
   go_wp2_with fail
   refine bodyPost_ret (aC (P:=prog) (cs:=[.string ByteArray.empty,.slice none 0 0]) rfl _ rfl (a5 _ x) underlying121 rfl n9) rfl ?_;exact a3 _ _ x a4 b1 HZ.out
  rw[jQ (by omega)] at HQ;have t1:¬(N:Int)<1:=by omega
  have t2:¬(8:Int)<N:=by omega
  obtain⟨R,hR⟩:=je (iL N s2 []);rw[<- hR] at HQ;have q4:Hid (NrX B w w5 r gn I 0 N S (.slice none 0 0) s2 [] R):=jz ⟨b1,c9,m5,x,a4,World.ownsRow_nil _ _ _ _,rfl,hR.symm⟩;clear hR x m5 b1 a4 c9 k0 k1 f0 f1;go_upto_region 7 with fail
  go_wp2_with fail
  clear t1 t2;go_loopw [26] (λi wr=>∃(k:Nat) (v:Value) (s:RdS) (V:List Bs),k<=N/\i = .int .u64 k/\Hid (NrX B w wr r gn I k N S v s V R)) (λi _=>N-(intOf i).toNat)
  case atStart=>exact⟨0,_,_,_,j0 _,rfl,q4⟩
  case round=>
   clear q4;obtain⟨k,v,s,V,hk,rfl,U⟩:=hrel;rcases jo k N with h9|t6
   ·have t7:(k:Int)<N:=by omega
    have g8:=jz (pZ 1 U.rd U.ok (by omega) (by omega));have n3:=jz (U.ok.str 1);have f7:=jz (jZ U.ok 1);have c6:Hid ((if eR (bsI (bF 1 s).1) then iL (N-(k+1)) (bF 1 s).2 (V++[bsI (bF 1 s).1]) else (none,(bF 1 s).2))=R):=jz (by
     have h:=U.eq
     rw[show N-k=(N-(k+1))+1 from by omega] at h
     exact h)
    obtain⟨xp,r5⟩:=je (bF 1 s);rw[<- r5] at g8 n3 f7 c6;have s5:=jz U.ok.len;clear r5;go_wp2_with fail
    refine g8.mono ?_;rintro e w6 ⟨J,q7,y,rfl,a2,h5⟩;obtain⟨A,ca,rfl,_⟩:=id a2;have c3:=K3 a2 f7.out.1;have q1:=jz q7;have m2:=jz (J.blk U.z (Ne.symm j.out.2.1));have m6:=jz (J.blk U.n (Ne.symm a0.out.2.1));have e0:=jz (U.off.trans J);have q3:Hid (w6.ownsRow w.heap.size 9 1 v k (fF V)):=jz (aQ U.own (λb hb=>J.block b (U.own.lt b hb).2 (by have:=(U.own.lt b hb).1;have:=a7.out;omega)));have r6:=jz U.len;obtain⟨T,hT⟩:=je (cV (bsI xp.1));rw[<- hT] at c3;have s4:=jz hT;have a1:=jz (o0 (bsI xp.1) w6 (by rw[mQ];have:=f7.out.2;have:=s5.out;omega));rw[<- hT] at a1;clear J q7 a2 h5 g8 U hT;go_wp2_with fail
    clear c3;refine a1.mono ?_;rintro e w7 ⟨rfl,a6⟩;have g1:=jz (q1.keep a6);have O:=jz (m2.keep a6);have f6:=jz (m6.keep a6);have b0:=jz (e0.trans (Off.of_below a6));have h0:=jz (aK q3 a6);clear a6 a1 q1 m2 m6 e0 q3;cases hw:eR (bsI xp.1) with
    | false=>
     have HZ:Hid (Z=((nm0,false),xp.2)):=jz (by
      have h:=c6.out
      rw[jQ (by rw[hw];decide)] at h
      rw[HQ.out,<- h])
     have k0:=O.cell 0;have k1:=O.cell 1;have f0:=O.frozen 0;have f1:=O.frozen 1;simp only[nmZ,jf,jh,jg] at k0 k1;clear hw;go_wp2_with fail
     refine bodyPost_ret (aC (P:=prog) (cs:=[.string ByteArray.empty,.slice none 0 0]) rfl _ rfl (a5 _ O) underlying121 rfl n9) rfl ?_;exact a3 _ _ O b0 g1 HZ.out
    | true=>
     rw[jP hw] at c6;clear hw;obtain⟨VA,vc,rfl,_,_⟩:=bO h0.out;have n1:=f6.cell 1;simp only[jf,jh,jg] at n1;have b7:=jz (aK h0 (aH w7 (.cells #[.string T] 9)));have s1:=jz (f6.keep (aH w7 (.cells #[.string T] 9)));have r7:=jz (O.keep (aH w7 (.cells #[.string T] 9)));have s3:=jz (g1.keep (aH w7 (.cells #[.string T] 9)));have n2:=jz (b0.trans (Off.of_below (aH w7 (.cells #[.string T] 9))));have s0:Hid (w.heap.size<=(w7.alloc (.cells #[.string T] 9)).heap.size):=jz n2.size;clear h0 f6 O g1 b0;have c4:∀ u∈(#[.string T]:Wa).toList,u.oneCell'=true:=λu hu=>by simp at hu;rw[hu];rfl
     have m3:Hid (k<=8):=jz (by omega);go_wp2_with (refine app ZY (.tmp 36) (.tmp 38) rfl rfl (by rfl) b7 (by rfl) (Sn.new w7 #[.string T] 9 1 1 rfl) c4 (by have:=m3.out;unfold maxLen;omega) (by have:=m3.out;omega) s0 ?_;intro v2 w8 h3 h7 t3;obtain⟨A8,c8,rfl,_,_⟩:=bO h3;have m9:=jz h3;have e8:=jz h7;have c7:=jz (k5 h7 b7 s1 (by decide));clear h3 h7 t3 n1;have n8:=c7.cell 1;have m8:=c7.frozen 1;simp only[jf,jh,jg] at n8)
     refine⟨⟨k+1,_,xp.2,V++[bsI xp.1],by omega,by go_num,jz ⟨?_,n3,c7.set_ 1 _,?_,?_,?_,?_,c6⟩⟩,by simp[intOf];omega⟩
     ·exact(s3.grown b7 a7.out.2 a7.out.1 e8).put a0.out.2.1 a0.out.2.2.2 _ _
     ·exact(k5 e8 b7 r7 (by decide)).far a0.out.1 _
     ·exact(n2.grownO b7 (ja _) e8).put a0.out.2.2.1 _ _
     ·have h:=ownsRow_setCell_other m9 (a:=⟨gn,1,none⟩) (λe=>cJ m9 c7 (by decide) e.symm) (Value.slice A8 (k+1) c8);rw[s4.out] at h;unfold fF at h ⊢;rw[List.map_append];exact h
     ·rw[jj,r6.out];rfl
   ·obtain rfl:k=N:=by omega
    have HZ:Hid (Z=((⟨bsI x1.1,V⟩,!s.2),s)):=jz (by
     have h:=U.eq
     rw[Nat.sub_self] at h
     have h2:(some V,s)=R:=h
     rw[HQ.out,<- h2])
    obtain⟨wD,d5⟩:=je wr.drew;have D:Hid (NrX B w wD r gn I k k S v s V R):=jz (by
     have h:=U.out
     have hb:Bw wr wD:=by rw[d5];exact(ji _ _).drew
     exact⟨h.rd.keep hb,h.ok,h.n.keep hb,h.z.keep hb,h.off.trans (Off.of_below hb),aK h.own hb,h.len,h.eq⟩)
    have k3:=jz (VP D.rd);obtain⟨bad,e1⟩:=je s.2;rw[<- e1] at k3 HZ;clear e1 U;go_upto_region 14 with fail
    refine kZ (n:=6) (λW=>W.rangeAt gn 0 [.string S,v]) (by rw[<- d5];exact D.n.range) (h:=λhH=>?_);rw[<- d5] at hH ⊢;clear d5;refine qL 0 (cs:=[.string S,v]) (λW hW=>hW) rfl ?_;refine qM 1 (.pointer (some ⟨r,0,none⟩)) ?_;refine kF 2 (some 44) (k3.mono ?_);rintro e w8 ⟨rfl,rfl⟩;refine⟨_,rfl,hH,λt5=>?_⟩;simp only[jq];refine qT 3 (.bool (!bad)) ?_;have r0:=iD (n:=2) D.z (by decide);have c4:∀ u∈[Value.string S,v],u.oneCell'=true:=λu hu=>by
     simp only[jl,j8,or_false] at hu;rcases hu with rfl|rfl
     ·rfl
     ·obtain⟨VA,vc,rfl,_,_⟩:=bO D.own;rfl
    have t0:(w8.setCells I 0 [.string S,v]).rangeAt gn 0 [.string S,v]:=((Off.putsR I _ 0 (Off.refl I _)).blk D.n (Ne.symm a0.out.1)).range;refine kR 4 none (n:=2) (cs:=[.string S,v]) r0 rfl c4 t0 (h:=?_);simp only[jq];refine qT 5 (.bool (!bad)) ?_;refine kE (h:=?_);go_wp2_with fail
    refine bodyPost_ret (aC (P:=prog) (cs:=[.string S,v]) rfl _ rfl (World.rangeAt_setCells_same _ I 0 _ r0) underlying121 rfl n9) rfl ?_;rw[n4.out,HZ.out];have J:=Off.putsR I [Value.string S,v] 0 (Off.refl I w8);refine⟨Off.puts _ _ D.off j.out.1,D.rd.off J j.out.2.1 j.out.2.2,v,?_,?_⟩
    ·rw[q2.out];rfl
    ·have h:=D.own;rw[<- D.len] at h;exact aQ h (λb hb=>J.block b (h.lt b hb).2 (λe=>cJ h D.z (by decide) (by rw[hb,e])))
end
end Go.Proofs.YtiaigidbcljblaaGreatDoor
