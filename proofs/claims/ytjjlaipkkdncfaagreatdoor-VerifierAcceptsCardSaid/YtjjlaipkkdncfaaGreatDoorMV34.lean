import Derived.Test.YtjjlaipkkdncfaaGreatDoorMV29
import Derived.Laws.Shifts
set_option linter.unusedVariables false
set_option linter.unusedSimpArgs false
set_option maxRecDepth 100000
set_option maxHeartbeats 40000000
namespace Go.Proofs.YtjjlaipkkdncfaaGreatDoor
open Go.Proofs.Tryz
section
open Go.RowKit
attribute [local irreducible] wpQuiet wpAnyH
def WZ:Wl:=List.replicate 32 0
def dZ:Wa:=(u8s WZ).toArray
theorem IR:∀ w,(zeroValue 24).run prog w = .ok (.agg dZ) w:=λw=>by unfold dZ;kernel_rfl
def oO(a b:Int):Int:=if a-b>9223372036854775807 then 9223372036854775807 else if a-b < -9223372036854775808 then -9223372036854775808 else a-b
def kP(a b:Int):Int:=oO (max a b) (min a b)
theorem yO(a b:Int)(w:Wd)(ha:aI a)(hb:aI b):
  Wc 170 #[.int .i64 a,.int .i64 b] w λe w'=>e = .returned (.int .i64 (oO a b))/\w=w':=by
 obtain⟨s,hs⟩:∃ s,wrap64 (a-b)=s:=⟨_,rfl⟩;have D:(-9223372036854775808<=a-b/\a-b<=9223372036854775807/\s=a-b)\/(9223372036854775807<a-b/\s=a-b-18446744073709551616)\/(a-b < -9223372036854775808/\s=a-b+18446744073709551616):=by
  rw[<- hs];unfold aI at ha hb;unfold wrap64;omega
 have HW:=jz D;have HA:=jz ha;have I:=jz hb;clear D ha hb;have R:oO a b=if 9223372036854775807<a-b then 9223372036854775807 else if a-b < -9223372036854775808 then -9223372036854775808 else a-b:=rfl
 have HQ:=jz R;clear R;rcases jb (decide (0<=a)) with J|J <;> rcases jb (decide (0<=b)) with K|K <;> rcases jb (decide (s<0)) with O|O
 all_goals
  have U:decide (a<0) = !decide (0<=a):=by by_cases h:0<=a <;> simp[h] <;> omega
  have V:decide (b<0) = !decide (0<=b):=by by_cases h:0<=b <;> simp[h] <;> omega
  have Z:decide (0<=s) = !decide (s<0):=by by_cases h:0<=s <;> simp[h] <;> omega
  rw[J] at U;rw[K] at V;rw[O] at Z;simp only[Bool.not_true,Bool.not_false] at U V Z;go_enter func170,ntmps170
  go_wp2_with fail
  go_ret;refine⟨RL ?_,rfl⟩;rw[HQ.out];have h1:=HW.out;have h2:=HA.out;have h3:=I.out;unfold aI at h2 h3;simp only[decide_eq_true_eq,decide_eq_false_iff_not] at J K O
  first
   | (rw[jP (by omega)])
   | (rw[jQ (by omega),jP (by omega)])
   | (rw[jQ (by omega),jQ (by omega)];omega)
def bR(x:Nat):Nat->List Nat
 | 0=>[]
 | i+1=>(x/256 ^ i % 256) :: bR x i
theorem eW(x:Nat):∀ k,(bR x k).length=k
 | 0=>rfl
 | i+1=>by show(bR x i).length+1=i+1;rw[eW x i]
theorem oP(x:Nat):∀ k,Byn (bR x k)
 | 0=>λy hy=>absurd hy (j8)
 | i+1=>λy hy=>by
  rcases List.mem_cons.1 hy with rfl|hy
  ·exact Nat.mod_lt _ (by omega)
  ·exact oP x i y hy
theorem gZ(D I:Nat)(w:Wd)(h1:1<=D)(h8:D<=8)(hx:I<256 ^ D)(O:I<18446744073709551616):Wc 93 #[.int .i64 D,.int .u64 I] w λe w'=>∃ v,e = .returned (.tuple #[v,.bool true])/\w'.ownsRow w.heap.size 5 1 v D (n8 (bR I D))/\Bw w w':=by
 have b2:¬(D:Int)<1:=by omega
 have b3:¬(8:Int)<D:=by omega
 have Z:=jz (And.intro hx O);clear hx O;go_enter func93,ntmps93
 go_wp2_with fail
 go_loopw [1,6,7] (λx v i wr=>∃ k:Nat,k<=D/\i = .int .i64 (k:Int)/\x = .int .u64 (I/256 ^ k:Nat)/\Hid (wr.ownsRow w.heap.size 5 1 v k (n8 (bR I k))/\Bw w wr)) (λ_ _ i _=>D-(intOf i).toNat)
 case atStart=>exact⟨0,j0 _,rfl,by rw[Nat.pow_zero,Nat.div_one],jz ⟨⟨rfl,.inl ⟨rfl,rfl⟩⟩,ji _ _⟩⟩
 case round=>
  obtain⟨k,hk,rfl,rfl,V⟩:=hrel;obtain⟨A0,c0,a5,J,_⟩:=aM V.out.1;subst a5;obtain⟨X,R⟩:=je (I/256 ^ k);have a6:X<18446744073709551616:=by rw[R];exact Nat.lt_of_le_of_lt (Nat.div_le_self _ _) Z.out.2
  rw[<- R];rcases jo k D with b9|a8
  ·have a9:(0:Int)<=k:=by omega
   have b0:(k:Int)<D:=by omega
   have b1:(k:Int)<8:=by omega
   obtain⟨a,ha⟩:=je (X % 256);obtain⟨d,hd⟩:=je (X/256);have f1:(X:Int) % 256=(a:Int):=by omega
   have f2:(X:Int)/256=(d:Int):=by omega
   have t1:Int.tmod (X:Int) 256=(a:Int):=by rw[Int.tmod_eq_emod_of_nonneg (by omega)];exact f1
   have t2:Int.tdiv (X:Int) 256=(d:Int):=by rw[Int.tdiv_eq_ediv_of_nonneg (by omega)];exact f2
   have f3:(a:Int) % 256=(a:Int):=by omega
   have a7:(a:Int)<256:=by omega
   have HD:Hid (d=I/256 ^ (k+1)/\bR I (k+1)=a :: bR I k):=jz ⟨by rw[hd,R,Nat.div_div_eq_div_mul,Nat.pow_succ],by rw[ha,R];rfl⟩;have a0:(wr.alloc (.cells #[.int .u8 (a:Nat)] 5)).ownsRow wr.heap.size 5 1 (.slice (some ⟨wr.heap.size,0,none⟩) 1 1) 1 [.int .u8 (a:Nat)]:=iP wr #[.int .u8 (a:Nat)] _ 1 1 _ _ (ja _) rfl (by decide) rfl;have a2:=jz (J.alloc (.cells #[.int .u8 (a:Nat)] 5));have a1:Hid (w.heap.size<=wr.heap.size):=jz V.out.2.size;clear ha hd R J;go_wp2_with (at_builtin;refine app fQ (.tmp 22) (.tmp 23) rfl (by rfl) (base:=wr.heap.size) (by rfl) a0 (by rfl) a2 (bK _) (by unfold maxLen;omega) (by omega) (by simp) ?_;intro v' w3 K hg a4;have HN:Hid (w3.ownsRow w.heap.size 5 1 v' (k+1) (n8 (bR I (k+1)))/\Bw w w3):=jz ⟨by rw[HD.out.2];have h:=aT K a1.out;rw[Nat.add_comm] at h;exact h,aB V.out.2 (((ji _ wr).alloc (ja _) _).grown hg (by simp) (λg e=>by cases e;exact ja _))⟩;clear K hg a4)
   exact⟨⟨k+1,by omega,by go_num,by rw[HD.out.1],HN⟩,by simp[intOf];omega⟩
  ·have U:k=D:=by omega
   have b7:¬(k:Int)<D:=by omega
   have a3:X=0:=by rw[R,U];exact Nat.div_eq_of_lt Z.out.1
   have HF:Hid (wr.ownsRow w.heap.size 5 1 (.slice A0 k c0) D (n8 (bR I D))/\Bw w wr):=jz (by have h:=V.out;rw[U] at h ⊢;exact h);subst a3;clear R V J U;go_wp2_with fail
   go_ret2
   exact⟨_,rfl,HF.out.1,HF.out.2⟩
theorem rE(va:Value)(ps:List (Value×List Nat))(w:Wd)(h:PN w va ps)(hn:ps.length<=100)(ht:(bJ ps).length<=800000000):Wc 90 #[va] w λe w'=>∃ v,e = .returned v/\w'.ownsRow w.heap.size 5 1 v (bJ ps).length (n8 (bJ ps))/\Bw w w':=by
 obtain⟨A,cap,rfl,a6,_,_⟩:=id h.row;have HP:=jz h;have a7:(ps.length:Int)<=cap:=by omega
 clear h;go_enter func90,ntmps90
 go_wp2_with fail
 go_loopw [3,4] (λv i wr=>∃ k:Nat,k<=ps.length/\i = .int .i64 (k:Int)/\Hid (wr.ownsRow w.heap.size 5 1 v (bJ (ps.take k)).length (n8 (bJ (ps.take k)))/\Bw w wr)) (λ_ i _=>ps.length-(intOf i).toNat)
 case atStart=>exact⟨0,j0 _,rfl,jz ⟨⟨rfl,.inl ⟨rfl,rfl⟩⟩,ji _ _⟩⟩
 case round=>
  obtain⟨k,hk,rfl,I⟩:=hrel;obtain⟨A0,c0,a5,a2,_⟩:=aM I.out.1;subst a5;obtain⟨L,R⟩:=je ((bJ (ps.take k)).length);rw[<- R] at I ⊢;clear a2;rcases jo k ps.length with a0|a8
  ·have a9:(0:Int)<=k:=by omega
   have b0:(k:Int)<ps.length:=by omega
   obtain⟨b,off,A',c',hA,hc,a1⟩:=HP.at k a0;subst hA;have a4:=j9 I.out.2 hc;have U:=jz (a1.below I.out.2);have J:=qH ps k a0;have Z:=G1 ps (k+1);rw[J,jj,<- R] at Z;have O:Hid (bJ (ps.take (k+1))=bJ (ps.take k)++ps[k].2/\(bJ (ps.take (k+1))).length=L+ps[k].2.length):=jz ⟨J,by rw[J,jj,<- R]⟩;have D:Hid (L+ps[k].2.length<=800000000/\w.heap.size<=wr.heap.size):=jz ⟨by omega,I.out.2.size⟩;obtain⟨P,hP⟩:=je (ps[k].2);rw[<- hP] at U O D a4;clear a1 J Z R hc hP;go_wp2_with (at_builtin;refine app fQ (.tmp 11) (.tmp 15) rfl (by rfl) (base:=w.heap.size) (by rfl) I.out.1 (by rfl) U (bK _) (by have:=D.out.1;unfold maxLen;omega) (by have:=D.out.1;omega) D.out.2 ?_;intro v' w3 K hg a3;have HN:Hid (w3.ownsRow w.heap.size 5 1 v' (bJ (ps.take (k+1))).length (n8 (bJ (ps.take (k+1))))/\Bw w w3):=jz ⟨by rw[O.out.2,O.out.1,dD];exact K,I.out.2.grown hg D.out.2 (λq e=>(I.out.1.lt q e).1)⟩;clear K hg a3)
   exact⟨⟨k+1,by omega,by go_num,HN⟩,by simp[intOf];omega⟩
  ·have V:k=ps.length:=by omega
   have b1:¬(k:Int)<ps.length:=by omega
   have HF:Hid (wr.ownsRow w.heap.size 5 1 (.slice A0 L c0) (bJ ps).length (n8 (bJ ps))/\Bw w wr):=jz (by have h:=I.out;rw[V,List.take_length] at h R;rw[<- R];exact h);clear I R V;go_wp2_with fail
   go_ret;exact⟨_,rfl,HF.out.1,HF.out.2⟩
end
section
open Go.RowKit
section
variable {P : Program} {ops : Array Oper} {Q : Exit -> Act -> Wd -> Prop} {S : Wd -> Prop} {a : Act} {w : Wd} {listed : Array Bool} {fuel : Nat}
theorem kSF(i j:Nat)(V Z:Option Tmp)(v:Value)(U:Wd){oi R:Oper}{f:FuncId}{args:Wa}
  (hrun:∀ o,ops[i]? = some o->(execOp a.eval o).run P w = .ok (.value v) U) (hS:S U)
  (h1:wpAnyH P .any ops Q S fuel (listed.setIfInBounds i true) (a.put V v) U)
  (h2:Calls P f args w λe w'=>∃ v,e = .returned v/\S w'/\(S w'->wpAnyH P .any ops Q S fuel (listed.setIfInBounds j true) (a.put Z v) w'))
  (hi:ops[i]? = some oi:=by rfl) (hj:ops[j]? = some R:=by rfl) (J:oi.dst=V:=by rfl) (O:R.dst=Z:=by rfl) (hc:kTwo ops listed i j=true:=by kernel_rfl)
  (hent:∀ w,(execOp a.eval R).run P w = .ok (.enter f args) w:=by intro w;unfold execOp;go_simp):wpAnyH P .any ops Q S (fuel+1) listed a w:=by
 subst J O;obtain⟨r0,gi,gj⟩:=kTwo.out hi hj hc;refine wpAnyH_ready r0 (by simp) (AllReadyH.cons hi (λK D=>?_) (AllReadyH.cons hj (λK D=>?_) jN))
 ·rw[jP (jU gi _)];unfold Oper.wp;rw[hrun _ hi,Oper.upon_value];exact D _ _ hS (λ_=>h1)
 ·rw[jP (jU gj _)];unfold Oper.wp;rw[hent,Oper.upon_enter];refine h2.mono ?_;rintro e w' ⟨v,rfl,I,hk⟩;exact D _ _ I hk
end
end
section
open Go.RowKit
attribute [local irreducible] wpQuiet wpAnyH
section
variable {P : Program}
end
theorem sO(s:Wl)(h:s.length=32):s=(List.range 32).map (λi=>s.getD i 0):=by
 apply List.ext_getElem
 ·simp[h]
 ·intro i h1 D;simp[h1]
theorem KZ(s:Wl)(t:Int)(h:s.length=32):prog.built 26 [(0,.agg (u8s s).toArray),(1,.int .i64 t)]=some (aO (s,t)).toArray:=by
 rw[sO s h];generalize (λi=>s.getD i 0)=D
 kernel_rfl
end
end Go.Proofs.YtjjlaipkkdncfaaGreatDoor
