import Derived.Test.YtiaigidbcljblaaGreatDoorMS23
import Derived.Test.YtiaigidbcljblaaGreatDoorMS24
import Derived.Deep.CutBlock
import Derived.Lib.FrozenHead
set_option linter.unusedVariables false
set_option linter.unusedSimpArgs false
set_option maxRecDepth 100000
set_option maxHeartbeats 40000000
namespace Go.Proofs.YtiaigidbcljblaaGreatDoor
open Go.Proofs.Tryz
section
open Go.RowKit Go.Sort
theorem AR(u:Nat)(j:u<18446744073709551616):(Lib.decDigits u).length<=20:=by
 have:=mO u 19 (by omega);rw[<- Lib.decDigits_length] at this;exact this
theorem CP(base u:Nat)(U:u<100)(v:Value)(l:Bs)(w:Wd)(j:OwnT w base v l)(x:base<=w.heap.size)(I:l.length+20<=140737488355328):
  Wc 66 #[v,.int .u64 u,.int .i64 10] w λe w'=>∃ v',e = .returned v'/\OwnT w' base v' (l++Lib.decDigits u)/\w.grownBy w' v.ownBlock:=by
 have O:=jz j;clear j;have R:=AR u (by omega);have V:decide ((u:Int)<100)=true:=by simp;omega
 go_enter func66,ntmps66
 go_wp2_with (first
  | (go_at_call 98;refine(Tryz.internal_strconv_small u U _).mono ?_;rintro e w' ⟨rfl,rfl⟩)
  | (at_builtin;refine Z0 (.tmp 13) (.tmp 16) rfl rfl (by rfl) O (m:=Lib.decDigits u) (by rfl) (by omega) x ?_;intro v' Z h1 D;have J:=jz h1;have K:=jz D;clear h1 D))
 go_ret;exact⟨v',rfl,J,K⟩
theorem I5(base u:Nat)(hu:100<=u)(I:u<18446744073709551616)(v:Value)(l:Bs)(w:Wd)(ht:Tab w)(J:OwnT w base v l)(a3:base<=w.heap.size)(a6:l.length+20<=140737488355328):
  Wc 66 #[v,.int .u64 u,.int .i64 10] w λe w'=>∃ v',e = .returned v'/\OwnT w' base v' (l++Lib.decDigits u)/\w.grownBy w' v.ownBlock:=by
 have HO:=jz J;have HT:=jz ht;clear J ht;have a2:=AR u I;have a8:Lib.nDigits u<=20:=by rw[<- Lib.decDigits_length];exact a2
 have a5:=Lib.decDigits_length u;have a7:=Lib.nDigits_pos u;have t0:decide ((u:Int)<100)=false:=by simp;omega
 have U:prog.arrayLen 200=24:=by kernel_rfl
 have O:∀ W,(Instr.sliceAt 200 (.pointer (some ⟨w.heap.size,0,none⟩)) none (some (.int .i64 (Lib.nDigits u:Int))) none).run prog W = .ok (.slice (some ⟨w.heap.size,0,none⟩) (Lib.nDigits u) 24) W:=λW=>by
  rw[run_sliceAt_array_h W 200 ⟨w.heap.size,0,none⟩ (by kernel_rfl) .i64 (Lib.nDigits u:Int) (by omega) (by rw[U];omega)]
  go_simp
 have a1:=jz O;have K:=Lib.holds_zero0 w 200 (Lib.nDigits u) (by omega);have D:=Tryz.internal_strconv_formatBase10 w.heap.size 0 24 u (Array.replicate (Lib.nDigits u) 0) (w.alloc (.cells Lib.zeros24 200)) K (by rw[Array.size_replicate];exact Lib.lt_pow_nDigits u) I (by rw[Array.size_replicate];omega);rw[Array.size_replicate] at D;have HF:Hid (Wc 100 #[.slice (some ⟨w.heap.size,0,none⟩) (Lib.nDigits u) 24,.int .u64 u] (w.alloc (.cells Lib.zeros24 200)) λe w'=>e = .returned (.tuple #[])/\Bw w w'/\w.heap.size<=w'.heap.size/\∀ j (hj:j<(Lib.decDigits u).length),w'.cell? ⟨w.heap.size,0+j,none⟩=some (.int .u8 ((Lib.decDigits u)[j].toNat:Int))):=jz (by
  refine D.mono ?_
  rintro e w' ⟨rfl,k,v',dk,rfl,hF⟩
  obtain⟨os,eo⟩:=Lib.fin_at w (.cells Lib.zeros24 200) dk k 0
  refine⟨rfl,by rw[eo];exact Lib.below_grow w.heap.size w (ja _) k os,by rw[eo];exact Lib.size_grow w k os,λj hj=>?_⟩
  rw[Lib.row_is_numeral hF j hj,World.cell?_drewN]
  exact cell?_putRow (fun(b:UInt8)=>Value.int .u8 (b.toNat:Int)) _ w.heap.size 0 _ dk K (by rw[hF.size,Array.size_replicate]) j (by rw[hF.size];omega))
 clear O D K U;go_enter func66,ntmps66
 have O:=a1.out;go_wp2_with (first
  | (go_at_call 99;refine(Tryz.internal_strconv_numDigits u (by omega) I _ (Lib.tabIs_alloc HT _)).mono ?_;rintro e w' ⟨rfl,rfl⟩))
 go_at_call 100
 refine HF.mono ?_;clear HF;rintro e W2 ⟨rfl,hb,V,x⟩;have Z:=jz hb;have HC:=jz x;have a0:=jz (HO.below hb);clear hb x;go_wp2_with (at_builtin;refine RO (.tmp 24) (.tmp 26) rfl rfl (by rfl) a0 (m:=Lib.decDigits u) (b:=w.heap.size) (off:=0) (c:=24) (by rw[a5];rfl) HC (by omega) (by omega) ?_;intro v' w1 h1 h2;have H1:=jz h1;have R:=jz h2;clear h1 h2)
 go_ret;refine⟨v',rfl,H1,R.out.os.trans Z.os,R.out.tape.trans Z.tape,R.out.output.trans Z.output,jm V R.out.size,λk hk a4=>(R.out.block k (jp hk V) a4).trans (Z.block k hk)⟩
theorem m0(base u:Nat)(R:u<9223372036854775808)(v:Value)(l:Bs)(w:Wd)(ht:Tab w)(x:OwnT w base v l)(j:base<=w.heap.size)(D:l.length+20<=140737488355328):
  Wc 20 #[v,.int .i64 u,.int .i64 10] w λe w'=>∃ v',e = .returned v'/\OwnT w' base v' (l++Lib.itoa u)/\w.grownBy w' v.ownBlock:=by
 have O:Hid (Wc 66 #[v,.int .u64 u,.int .i64 10] w λe w'=>∃ v',e = .returned v'/\OwnT w' base v' (l++Lib.decDigits u)/\w.grownBy w' v.ownBlock):=jz (by
  rcases jo u 100 with h|h
  ·exact CP base u h v l w x j D
  ·exact I5 base u h (by omega) v l w ht x j D)
 clear x ht;have V:decide ((u:Int)<0)=false:=by simp
 have Z:IntKind.u64.wrap (u:Int)=u:=by unfold IntKind.wrap;simp[IntKind.signed,IntKind.bits];omega
 rw[Lib.itoa_nonneg];have U:Hid (Wc 35 #[v,.int .i64 u,.int .i64 10] w λe w'=>∃ v',e = .returned v'/\OwnT w' base v' (l++Lib.decDigits u)/\w.grownBy w' v.ownBlock):=jz (by
  go_enter func35,ntmps35
  go_wp2_with (go_at_call 66;refine O.mono ?_;rintro e w' ⟨v',rfl,h1,I⟩;have J:=jz h1;have K:=jz I;clear h1 I)
  go_ret
  exact⟨v',rfl,J,K⟩)
 clear O;go_enter func20,ntmps20
 go_wp2_with (go_at_call 35;refine U.mono ?_;rintro e w' ⟨v',rfl,h1,I⟩;have J:=jz h1;have K:=jz I;clear h1 I)
 go_ret;exact⟨v',rfl,J,K⟩
end
section
open Go.RowKit
structure LI(w:Wd)(box:Wa)(m:Value)(L:Bs)(wr:Wd):Prop where
 own:OwnT wr (w.heap.size+1) m L
 bel:Bw w wr
 box:Blk wr w.heap.size 71 box
 size:w.heap.size+1<=wr.heap.size
theorem LI.grown{w:Wd}{box:Wa}{m:Value}{L:Bs}{wr:Wd}(h:LI w box m L wr){v:Value}{L':Bs}{w':Wd}(h1:OwnT w' (w.heap.size+1) v L')(j:wr.grownBy w' m.ownBlock):LI w box v L' w' where
 own:=h1
 bel:=h.bel.grown j (by have:=h.size;omega) (λk x=>by have:=(h.own.lt k x).1;omega)
 box:=(j.block w.heap.size (by have:=h.size;omega) (λe=>by have:=(h.own.lt _ e.symm).1;omega)).trans h.box
 size:=jm h.size j.size
theorem LI.alloc{w:Wd}{box:Wa}{m:Value}{L:Bs}{wr:Wd}(h:LI w box m L wr)(o:Obj):LI w box m L (wr.alloc o) where
 own:=h.own.alloc o
 bel:=h.bel.alloc (by have:=h.size;omega) o
 box:=h.box.alloc o
 size:=by have:=h.size;simp;omega
theorem LI.drewN{w:Wd}{box:Wa}{m:Value}{L:Bs}{wr:Wd}(h:LI w box m L wr)(n:Nat):LI w box m L (wr.drewN n) where
 own:=h.own.drewN n
 bel:=cA h.bel n
 box:=h.box.drewN n
 size:=h.size
theorem rH{ops:Array Oper}{o:Oper}{a:Act}{K:Act->Wd->Prop}{Q:Exit->Act->Wd->Prop}{E:Prop}{w:Wd}(sl x:Operand)
  (V:o.op = .call { callee:=.builtin .append,args:=#[sl,x],argTypes:=#[68,68] }) (hw:Region.wanted o (yielded ops a.tmps)=true)
  {base:Nat} {v:Value} {l m:Bs} {b off c:Nat} (Z:a.eval sl=v) (J:OwnT w base v l) (hx:a.eval x = .slice (some ⟨b,off,none⟩) m.length c) (U:∀ j (hj:j<m.length),w.cell? ⟨b,off+j,none⟩=some (.int .u8 (m[j].toNat:Int)))
  (I:l.length+m.length<=140737488355328) (D:base<=w.heap.size)
  (h:∀ v' w',OwnT w' base v' (l++m)->w.grownBy w' v.ownBlock->K (a.put o.dst v') w'):if Region.wanted o (yielded ops a.tmps)=true then Oper.wp prog o a w K Q else E:=by
 rw[jP hw];obtain⟨v',w',hrun,O,R⟩:=E2 o.type J (c:=c) U I D;unfold Oper.wp execOp;simp only[V,resolve,invoke,builtin,Sem.run_bind,Sem.run_pure,Result.andThen_ok,List.map_toArray,List.map_cons,List.map_nil,Z,hx,hrun];exact h v' w' O R
theorem xX(c:Wl)(j:Nat)(h:j<c.length):jA (c.take (j+1))=jA (c.take j)++32 :: Lib.itoa c[j]:=by
 unfold jA;rw[j6 h,List.flatMap_append];simp
theorem o7(c:Wl)(D:∀ x∈c,0<=x/\x<=64):∀ j,j<=c.length->(jA (c.take j)).length<=21*j
 | 0,_=>by simp[jA]
 | j+1,h=>by
  have J:=D c[j] (List.getElem_mem (by omega));have I:=kY c[j] (by omega) (by omega);rw[xX c j (by omega),jj,List.length_cons];have:=o7 c D j (by omega);omega
theorem jV(k:Int):(b8 k).length<=7:=by
 unfold b8
 repeat (split;· decide)
 decide
theorem R7(k n:Int)(d:Bs)(c:Wl)(A B:Option Addr)(ca cb:Nat)(w:Wd)(ht:Tab w)(hd:Sn w 1 (.slice A d.length ca) d.length (Lib.byteCells d))(hc:Sn w 1 (.slice B c.length cb) c.length (oA c))(g8:d.length<=1000000)(g3:c.length<=1000000):
  Wc 29 #[.agg #[.int .i64 k,.int .i64 n,.slice A d.length ca,.slice B c.length cb]] w (Rt w (.string (SBy (e9 ⟨k,n,d,c⟩)))):=by
 have HD:=jz hd;have HC:=jz hc;have HT:=jz ht;have a4:=jz (fun(w1:Wd) (hb:Bw w w1)=>sH k n d c A B ca cb w1 (HC.below hb) (by omega) (by omega));clear hd hc ht;rcases jb (aD ⟨k,n,d,c⟩) with Z|Z
 rotate_left 1
 ·have HL:Hid (e9 ⟨k,n,d,c⟩=[]):=jz (by unfold e9;rw[Z];rfl);rw[Z] at a4;clear Z;go_enter func29,ntmps29
  go_wp2_with (go_at_call 37;refine(a4 _ (aT _ _)).mono ?_;rintro e w' ⟨rfl,hb⟩;have HB:=jz hb;clear hb)
  go_ret;exact⟨by rw[HL.out];rfl,aA (aT _ _) HB⟩
 ·have HL:Hid (e9 ⟨k,n,d,c⟩=s9 ⟨k,n,d,c⟩):=jz (by unfold e9;rw[jP Z]);obtain⟨u,rfl⟩:=Int.eq_ofNat_of_zero_le (mW Z).n.1.1;have g0:u<=1099511627776:=by have:=(mW Z).n.1.2;simp at this;omega
  have HK:=jz (k8 Z);have c4:=jz (mW Z);rw[Z] at a4;clear Z;go_enter func29,ntmps29
  go_wp2_with (go_at_call 37;refine(a4 _ (aT _ _)).mono ?_;rintro e w1 ⟨rfl,hb⟩;have f0:=jz (aA (aT _ _) hb);have d5:=jz ((Blk.new _ _ _).keep hb);have c9:=hb.size;simp only[World.size_alloc] at c9;have b0:=d5.cell 0;simp only[jf,jg] at b0;clear hb)
  obtain⟨v2,w2,e0,e8,V,_⟩:=OwnT.made w1 (w.heap.size+1) (b8 k) c9 (by have:=jV k;unfold maxLen;omega);refine(E0 k w1).mono ?_;rintro e w' ⟨rfl,rfl⟩;have HI:Hid (LI w #[.int .i64 k,.int .i64 u,.slice A d.length ca,.slice B c.length cb] v2 (b8 k) w2):=jz ⟨e8,aA f0 V,d5.keep V,jm c9 V.size⟩;obtain⟨box,a2⟩:=je ((#[.int .i64 k,.int .i64 u,.slice A d.length ca,.slice B c.length cb]:Wa));rw[<- a2] at HI;have a1:=jz a2;clear a2 e8 V;clear b0;have b0:=HI.box.cell 0;rw[a1.out] at b0;simp only[jf,jg] at b0
  go_upto_block 0 with fail
  clear e0 b0;go_cut [3] from 15 to 65 (λm wx=>Hid (LI w box m (b8 k++(if eD k then 32 :: Lib.itoa u else [])) wx))
  case first=>as_aux_lemma=>
   have V:=HI.box;have c1:=V.cell 1;rw[a1.out] at c1;simp only[jf,jg,jh] at c1;have c5:Hid (∀(J:Value) (w3:Wd),OwnT w3 (w.heap.size+1) J (b8 k++[32])->((w2.alloc (.cells #[.int .u8 32] 5)).drewN 1).grownBy w3 v2.ownBlock->Tab w3):=jz (λJ w3 h1 h2=>HT.below (((HI.alloc (.cells #[.int .u8 32] 5)).drewN 1).grown h1 h2).bel);have h7:=jV k;have h5:=HI.size;have a3:some w.heap.size≠v2.ownBlock:=λe=>by have:=(HI.own.lt _ e.symm).1;omega
   have g2:=jz (HT.below HI.bel);clear V;have HF:Hid (∀(v4:Value) (w3 w4:Wd) (J:Value),OwnT w3 (w.heap.size+1) J (b8 k++[32])->((w2.alloc (.cells #[.int .u8 32] 5)).drewN 1).grownBy w3 v2.ownBlock->OwnT w4 (w.heap.size+1) v4 (b8 k++[32]++Lib.itoa u)->w3.grownBy w4 J.ownBlock->LI w box v4 (b8 k++32 :: Lib.itoa u) w4):=jz (λv4 w3 w4 J h1 h2 h3 h4=>by
    have:=((HI.alloc (.cells #[.int .u8 32] 5)).drewN 1).grown h1 h2
    have:=this.grown h3 h4
    simpa using this)
   rcases HK with e|e|e|e|e|e
   ·have e:k=_:=e;subst e;go_wp2_with fail
    go_region_held3 (λw'=>w'.cell? ⟨w.heap.size,1,none⟩=some (.int .i64 u))
     (first|go_keep|(refine D.cell (by assumption) a3)|(refine hg4.cell (by assumption) (λe=>R e)))
     ((first
      | (refine rH (.tmp 21) (.tmp 22) (by rfl) (by rfl) (by rfl) ((HI.own.alloc _).drewN 1) (m:=[32]) (by rfl) (λj hj=>kD w2 [32] _ j hj) (by simp;omega) (by simp;omega) ?_;intro J w3 I D;have R:some w.heap.size≠J.ownBlock:=λe=>by have:=(OwnT.lt I _ e.symm).1;omega)
      | (go_at_call 20;refine(m0 (w.heap.size+1) u (by omega) _ _ _ (c5 _ _ I D) I (by have:=D.size;simp at this;omega) (by simp;omega)).mono ?_;rintro e w4 ⟨v4,rfl,U,hg4⟩)))
    all_goals
     go_wp2_with fail
     go_meet
     exact jz (HF v4 w3 w4 J I D U hg4)
   ·have e:k=_:=e;subst e;go_wp2_with fail
    go_meet
    exact jz (by simpa [eD] using HI.out)
   ·have e:k=_:=e;subst e;go_wp2_with fail
    go_meet
    exact jz (by simpa [eD] using HI.out)
   ·have e:k=_:=e;subst e;go_wp2_with fail
    go_meet
    exact jz (by simpa [eD] using HI.out)
   ·have e:k=_:=e;subst e;go_wp2_with fail
    go_region_held3 (λw'=>w'.cell? ⟨w.heap.size,1,none⟩=some (.int .i64 u))
     (first|go_keep|(refine D.cell (by assumption) a3)|(refine hg4.cell (by assumption) (λe=>R e)))
     ((first
      | (refine rH (.tmp 21) (.tmp 22) (by rfl) (by rfl) (by rfl) ((HI.own.alloc _).drewN 1) (m:=[32]) (by rfl) (λj hj=>kD w2 [32] _ j hj) (by simp;omega) (by simp;omega) ?_;intro J w3 I D;have R:some w.heap.size≠J.ownBlock:=λe=>by have:=(OwnT.lt I _ e.symm).1;omega)
      | (go_at_call 20;refine(m0 (w.heap.size+1) u (by omega) _ _ _ (c5 _ _ I D) I (by have:=D.size;simp at this;omega) (by simp;omega)).mono ?_;rintro e w4 ⟨v4,rfl,U,hg4⟩)))
    all_goals
     go_wp2_with fail
     go_meet
     exact jz (HF v4 w3 w4 J I D U hg4)
   ·have e:k=_:=e;subst e;go_wp2_with fail
    go_region_held3 (λw'=>w'.cell? ⟨w.heap.size,1,none⟩=some (.int .i64 u))
     (first|go_keep|(refine D.cell (by assumption) a3)|(refine hg4.cell (by assumption) (λe=>R e)))
     ((first
      | (refine rH (.tmp 21) (.tmp 22) (by rfl) (by rfl) (by rfl) ((HI.own.alloc _).drewN 1) (m:=[32]) (by rfl) (λj hj=>kD w2 [32] _ j hj) (by simp;omega) (by simp;omega) ?_;intro J w3 I D;have R:some w.heap.size≠J.ownBlock:=λe=>by have:=(OwnT.lt I _ e.symm).1;omega)
      | (go_at_call 20;refine(m0 (w.heap.size+1) u (by omega) _ _ _ (c5 _ _ I D) I (by have:=D.size;simp at this;omega) (by simp;omega)).mono ?_;rintro e w4 ⟨v4,rfl,U,hg4⟩)))
    all_goals
     go_wp2_with fail
     go_meet
     exact jz (HF v4 w3 w4 J I D U hg4)
  case rest=>
  have f8:(b8 k++(if eD k then 32 :: Lib.itoa u else [])).length<=30:=by
   have h1:=jV k;have h2:=kY (u:Int) (by omega) (by omega);rw[jj];split
   ·rw[List.length_cons];omega
   ·simp;omega
  have b1:Hid (s9 ⟨k,u,d,c⟩=(b8 k++(if eD k then 32 :: Lib.itoa u else []))++jA c++(if d.isEmpty then [] else 32 :: iB d)):=jz rfl;obtain⟨P,hP⟩:=je (b8 k++(if eD k then 32 :: Lib.itoa u else []));rw[<- hP] at f8 b1 hcut;clear hP;have c3:=hcut.out.box.cell 3;rw[a1.out] at c3;simp only[jf,jg,jh] at c3;go_upto_region 9 with fail
  go_wp2_with fail
  go_loopw [3,30] (λm i wr=>∃ j:Nat,j<=c.length/\i = .int .i64 j/\Hid (LI w box m (P++jA (c.take j)) wr)) (λ_ i _=>c.length-(intOf i).toNat)
  case atStart=>exact⟨0,j0 _,rfl,by simpa [jA] using hcut⟩
  case round=>
   obtain⟨j,hj,rfl,HJ⟩:=hrel;have h6:=HJ.size;rcases jo j c.length with O|f5
   ·obtain⟨b,off,eA,c0⟩:=RJ (HC.below HJ.bel) j O;subst eA;obtain⟨a5,d0⟩:=c4.cut c[j] (List.getElem_mem O);have a7:=o7 c c4.cut j hj;have K:=jz (xX c j O);obtain⟨x,hx⟩:=je (c[j]);rw[<- hx] at a5 d0 c0 K;clear hx;obtain⟨y,rfl⟩:=Int.eq_ofNat_of_zero_le a5;obtain⟨L,hL⟩:=je (P++jA (c.take j));have f3:L.length<=30+21*j:=by rw[hL,jj];omega
    rw[<- hL] at HJ;have b7:=jz hL;clear hL;have f6:(0:Int)<=j:=by omega
    have f7:(j:Int)<c.length:=by omega
    go_wp2_with (first
     | (at_builtin;refine RO (.tmp 34) (.tmp 35) rfl rfl (by rfl) (HJ.own.alloc _) (m:=[32]) (by rfl) (λj hj=>kD wr [32] _ j hj) (by simp;omega) (by simp;omega) ?_;intro J w3 I D;have a0:=jz ((HJ.alloc _).grown I D);have g1:=jz I;clear I D)
     | (go_at_call 20;refine(m0 (w.heap.size+1) y (by omega) _ _ _ (HT.below a0.bel) a0.own a0.size (by simp;omega)).mono ?_;rintro e w4 ⟨v4,rfl,U,hg4⟩;have f2:=jz (a0.grown U hg4);clear U hg4))
    exact⟨⟨j+1,O,by go_num,jz (by have h:=f2.out;rw[b7.out] at h;rw[K.out];simpa using h)⟩,by simp[intOf];omega⟩
   ·obtain rfl:j=c.length:=by omega
    rw[List.take_length] at HJ;have a7:=o7 c c4.cut c.length (ja _);rw[List.take_length] at a7;have c2:=HJ.box.cell 2;rw[a1.out] at c2;simp only[jf,jg,jh] at c2;go_upto_if 43 with fail
    go_cut [3,43] from 44 to 65 (λm _ wx=>Hid (LI w box m (P++jA c++(if d.isEmpty then [] else [32])) wx))
    case first=>
     rcases jb d.isEmpty with hd|hd
     ·have t1:decide ((0:Int)<d.length)=false:=by rw[List.isEmpty_iff] at hd;rw[hd];rfl
      have d2:decide (0<d.length)=false:=by rw[List.isEmpty_iff] at hd;rw[hd];rfl
      have HE:Hid (LI w box u3 (P++jA c++(if d.isEmpty then [] else [32])) wr):=jz (by rw[hd];simpa using HJ.out);clear hd
      first|rw[d2]|rw[t1]
      go_wp2_with fail
      go_meet
      exact HE
     ·have t1:decide ((0:Int)<d.length)=true:=by
       have h:=iE hd;rw[bne_iff_ne] at h;simp;omega
      have d2:decide (0<d.length)=true:=by simpa using t1
      have HE:=jz hd;clear hd
      first|rw[d2]|rw[t1]
      go_wp2_with (at_builtin;refine RO (.tmp 44) (.tmp 45) rfl rfl (by rfl) (HJ.own.alloc _) (m:=[32]) (by rfl) (λj hj=>kD wr [32] _ j hj) (by simp;omega) (by simp;omega) ?_;intro J w3 I D;have a0:=jz ((HJ.alloc _).grown I D);clear I D)
      go_meet
      refine jz ?_;rw[HE.out];exact a0.out
    case rest=>
    clear c2;have c2:=hcut.out.box.cell 2;rw[a1.out] at c2;simp only[jf,jg,jh] at c2;have d7:Hid (s9 ⟨k,u,d,c⟩=P++jA c++(if d.isEmpty then [] else [32])++iB d):=jz (by
     rw[b1.out]
     cases d with
     | nil=>simp[iB]
     | cons b d=>simp)
    obtain⟨P2,c7⟩:=je (P++jA c++(if d.isEmpty then [] else [32]));have h0:P2.length<=31+21*c.length:=by
     rw[c7,jj,jj];split <;> simp <;> omega
    rw[<- c7] at hcut d7;clear c7 b1 HJ;go_wp2_with fail
    go_loopw [3,50] (λm i wr=>∃ j:Nat,j<=d.length/\i = .int .i64 j/\Hid (LI w box m (P2++iB (d.take j)) wr)) (λ_ i _=>d.length-(intOf i).toNat)
    case atStart=>exact⟨0,j0 _,rfl,by simpa [iB] using hcut⟩
    case round=>
     obtain⟨j,hj,rfl,HJ⟩:=hrel;have f9:=HJ.size;rcases jo j d.length with O|f5
     ·obtain⟨b,off,eA,c6⟩:=VR HD j O;subst eA;have a6:=dW c6;have a3:some b≠u3.ownBlock:=λe=>by have:=(HJ.own.lt _ e.symm).1;simp at a6;omega
      have c0:=j9 HJ.bel c6;clear c6 a6;have e1:=oB (d.take j);rw[jv] at e1;have K:=jz (NH d j O);obtain⟨z,hz⟩:=je (d[j].toNat);rw[<- hz] at K c0;have d1:z<256:=by rw[hz];exact UInt8.toNat_lt _
      obtain⟨q,hq⟩:=je (z/16);obtain⟨r,Z⟩:=je (z % 16);have a5:=λw=>K6 q (by omega) .u8 w
      have d0:=λw=>K6 r (by omega) .u8 w
      rw[<- hq,<- Z] at K;have y1:(z:Int)/16=q:=by omega
      have y2:bits .and .u8 (z:Int) 15=r:=by
       have h:=u8_and_nat z 15 d1 (by omega);rw[show z &&& 15=z % 16 from Nat.and_two_pow_sub_one_eq_mod z 4,<- Z] at h;exact h
      obtain⟨L,hL⟩:=je (P2++iB (d.take j));have f3:L.length<=31+21*c.length+2*j:=by rw[hL,jj];omega
      rw[<- hL] at HJ;have b7:=jz hL;clear hz hL;obtain⟨x1,a8⟩:=je (nJ q);obtain⟨x2,a9⟩:=je (nJ r);rw[<- a8] at a5 K;rw[<- a9] at d0 K;clear a8 a9 hq Z;have f6:(0:Int)<=j:=by omega
      have f7:(j:Int)<d.length:=by omega
      have HF:Hid (∀(J:Value) (w3:Wd),OwnT w3 (w.heap.size+1) J (L++[x1,x2])->((wr.alloc (.cells #[.int .u8 (x1.toNat:Int),.int .u8 (x2.toNat:Int)] 5)).drewN 1).grownBy w3 u3.ownBlock->LI w box J (P2++iB (d.take (j+1))) w3):=jz (λJ w3 h1 h2=>by
       have h:=((HJ.alloc (.cells #[.int .u8 (x1.toNat:Int),.int .u8 (x2.toNat:Int)] 5)).drewN 1).grown h1 h2
       rw[b7.out] at h
       rw[K.out]
       simpa using h)
      go_wp2_with fail
      go_region_held3 (λw'=>w'.cell? ⟨b,off+j,none⟩=some (.int .u8 z))
       (first|go_keep|(refine D.cell (by assumption) a3))
       ((refine rH (.tmp 54) (.tmp 61) (by rfl) (by rfl) (by rfl) ((HJ.own.alloc _).drewN 1) (m:=[x1,x2]) (by rfl) (λj hj=>kD wr [x1,x2] _ j hj) (by simp;omega) (by simp;omega) ?_;intro J w3 I D))
      all_goals
       have f1:=jz (HF J w3 I D);clear I D;go_wp2
       exact⟨⟨j+1,O,by go_num,f1⟩,by simp[intOf];omega⟩
     ·obtain rfl:j=d.length:=by omega
      rw[List.take_length] at HJ;have e0:=HJ.own.conv;go_wp2_with fail
      go_ret;refine⟨?_,HJ.bel⟩;rw[HL.out,d7.out];rfl
theorem xY(b:Nat)(w:Wd)(I:w.cell? ⟨b,0,none⟩=some (.pointer (some ⟨b,0,none⟩))):
  Wc 60 #[.pointer (some ⟨b,0,none⟩)] w λe w'=>e = .returned (.tuple #[])/\w'=w:=by
 have x:(prog.info? 89).map (·.size)=some 2:=by kernel_rfl
 obtain⟨j,D,_⟩:=Option.map_eq_some_iff.1 x;go_enter func60,ntmps60
 go_wp2
 rw[Lib.run_neq_ptr_same w _ underlying87 D];go_wp2
 go_end0
 exact⟨rfl,rfl⟩
theorem uA(b:Nat)(w:Wd)(O:w.cell? ⟨b,0,none⟩=some (.pointer none))(hsh:w.shape? b=some (89,2))(K:w.frozen? ⟨b,0,none⟩=false):
  Wc 60 #[.pointer (some ⟨b,0,none⟩)] w λe w'=>e = .returned (.tuple #[])/\w'=w.setCell ⟨b,0,none⟩ (.pointer (some ⟨b,0,none⟩)):=by
 have I:(prog.info? 89).map (·.size)=some 2:=by kernel_rfl
 have x:liesAt prog prog.depth 89 (2/prog.cellsOf 89) 0 89 1=true:=by kernel_rfl
 obtain⟨j,J,D⟩:=Option.map_eq_some_iff.1 I;go_enter func60,ntmps60
 go_wp2
 rw[Lib.run_to_unsafe w ⟨b,0,none⟩ underlying87 underlying186 J (by rw[D];decide) hsh (Nat.zero_lt_succ 1)];simp only[Result.andThen];rw[Oper.upon_value];go_wp2
 rw[run_callFunc_extern func91 (by kernel_rfl) (by kernel_rfl) (by kernel_rfl) (e:=Extern.AbiNoEscape.same) (by kernel_rfl)];rw[Lib.run_noEscape];simp only[Result.andThen];rw[Oper.upon_value];go_wp2
 rw[Lib.run_from_unsafe w ⟨b,0,none⟩ underlying186 underlying87 J hsh x];simp only[Result.andThen];rw[Oper.upon_value];go_wp2
 go_end0
 exact⟨rfl,rfl⟩
theorem pN(B b:Nat)(bs:Wv)(w:Wd)(h:Lib.IsBuilder 89 5 B b bs w):
  Wc 60 #[.pointer (some ⟨b,0,none⟩)] w λe w'=>e = .returned (.tuple #[])/\(Lib.BuilderAt 89 5 B b (.pointer (some ⟨b,0,none⟩)) bs w'/\Below B w w'):=by
 rcases h with h|h
 ·refine(uA b w h.cell0 h.shape h.frozen0).mono ?_;rintro e w' ⟨rfl,rfl⟩;exact⟨rfl,h.used _,(ji B w).setCell (p:=⟨b,0,none⟩) h.1 _⟩
 ·refine(xY b w h.cell0).mono ?_;rintro e w' ⟨rfl,rfl⟩;exact⟨rfl,h,ji B _⟩
theorem uB(B b:Nat)(bs:Wv)(s:ByteArray)(w:Wd)(h:Lib.IsBuilder 89 5 B b bs w)(a3:bs.length+s.size<=140737488355328)(a5:B<=w.heap.size):
  Wc 30 #[.pointer (some ⟨b,0,none⟩),.string s] w λe w'=>e = .returned (.tuple #[.int .i64 s.size,.nilIface])/\(Lib.IsBuilder 89 5 B b (bs++Lib.strCells s) w'/\Below B w w'):=by
 have O:(prog.info? 5).map (λi=>(i.zero,i.size,i.bytes))=some (some (.int .u8 0),1,1):=by kernel_rfl
 obtain⟨i0,hi,a0,a1,a2⟩:=info_parts O;go_enter func30,ntmps30
 go_wp2_with (go_at_call 60;refine(pN B b bs _ h).mono ?_)
 rintro e R ⟨rfl,h1,K⟩;obtain⟨hB,v,I,J,Z⟩:=h1;have c0:R.cell? ⟨b,0,none⟩=some (.pointer (some ⟨b,0,none⟩)):=by rw[Lib.cell_of_heap I];rfl
 have c1:R.cell? ⟨b,1,none⟩=some v:=by rw[Lib.cell_of_heap I];rfl
 go_wp2_with (at_builtin;refine Lib.wpList_append_own_string _ rfl _ _ 68 9 rfl B 5 i0 underlying68 underlying9 hi a0 a1 a2 _ _ _ rfl J s rfl ?c3 ?c4 ?c5 ?_)
 case c3=>unfold maxLen;omega
 case c4=>omega
 case c5=>have:=K.size;omega
 intro v' w2 x j _;have V:b<R.heap.size:=by
  rcases jo b R.heap.size with U|U
  ·exact U
  ·simp[Array.getElem?_eq_none U] at I
 have D:w2.heap[b]? = some (.cells #[.pointer (some ⟨b,0,none⟩),v] 89 (0,0)):=by
  rw[j.block b V (λe=>Z e.symm)];exact I
 have d0:w2.cell? ⟨b,0,none⟩=some (.pointer (some ⟨b,0,none⟩)):=by rw[Lib.cell_of_heap D];rfl
 have d1:w2.cell? ⟨b,1,none⟩=some v:=by rw[Lib.cell_of_heap D];rfl
 have f1:w2.frozen? ⟨b,1,none⟩=false:=Lib.frozen_of_heap D 1;obtain⟨ao,n',cap,rfl⟩:∃ ao n' cap,v' = .slice ao n' cap:=by
  rcases x.2 with ⟨hv,_⟩|⟨g,cap,a4,hv,_⟩
  ·exact⟨_,_,_,hv⟩
  ·exact⟨_,_,_,hv⟩
 go_wp2
 go_ret2
 refine⟨rfl,.inr ?_,?_⟩
 ·exact Lib.BuilderAt.put (T:=89) (e:=5) hB D (bs':=bs++Lib.strCells s) (by simpa [Lib.strCells_length] using x) (by decide)
 ·exact(K.grown j (by have:=K.size;omega) (λk hk=>(J.lt k hk).1)).setCell (p:=⟨b,1,none⟩) hB _
theorem yY(B b:Nat)(bs:Bs)(c:UInt8)(w:Wd)(h:Lib.IsBuilder 89 5 B b (Lib.byteCells bs) w)(a1:bs.length+1<=140737488355328)(a2:B<=w.heap.size):
  Wc 31 #[.pointer (some ⟨b,0,none⟩),.int .u8 (c.toNat:Int)] w λe w'=>e = .returned .nilIface/\(Lib.IsBuilder 89 5 B b (Lib.byteCells (bs++[c])) w'/\Below B w w'):=by
 go_enter func31,ntmps31
 go_wp2_with (go_at_call 60;refine(pN B b (Lib.byteCells bs) _ h).mono ?_)
 rintro e K ⟨rfl,h1,O⟩;obtain⟨hB,v,J,D,a0⟩:=h1;have c0:K.cell? ⟨b,0,none⟩=some (.pointer (some ⟨b,0,none⟩)):=by rw[Lib.cell_of_heap J];rfl
 have c1:K.cell? ⟨b,1,none⟩=some v:=by rw[Lib.cell_of_heap J];rfl
 have Z:b<K.heap.size:=by
  rcases jo b K.heap.size with V|V
  ·exact V
  ·simp[Array.getElem?_eq_none V] at J
 have a3:=O.size;have R:B<=K.heap.size:=by omega
 rw[aG] at D;go_wp2_with (at_builtin;refine app tQ (.tmp 11) (.tmp 13) rfl rfl (by rfl) (World.ownsRow.alloc D _) (by rfl) (Sn.new K (Lib.byteCells [c]).toArray 5 1 1 rfl) (cP [c]) (by unfold maxLen;omega) (by omega) (by simp;omega) ?_;intro v' w2 j x _;rw[jt,<- bB] at j;obtain⟨ao,cap,rfl,_⟩:=Sn.own j;have I:w2.heap[b]? = some (.cells #[.pointer (some ⟨b,0,none⟩),v] 89 (0,0)):=(x.block b (by simp;omega) (λe=>a0 e.symm)).trans ((Below.heap_alloc K _ b Z).trans J);have d1:w2.cell? ⟨b,1,none⟩=some v:=(by rw[Lib.cell_of_heap I];rfl);have f1:w2.frozen? ⟨b,1,none⟩=false:=Lib.frozen_of_heap I 1;have HO:=jz j;have HG:=jz x;have U:=jz I;clear j x I)
 go_ret;refine⟨rfl,.inr ?_,?_⟩
 ·exact Lib.BuilderAt.put (T:=89) (e:=5) hB U (bs':=Lib.byteCells (bs++[c])) (by rw[aG,jj];exact HO) (by decide)
 ·exact(((O.alloc R _)).grown HG (by simp;omega) (λk hk=>(D.lt k hk).1)).setCell (p:=⟨b,1,none⟩) hB _
end
section
open Go.RowKit Go.ChangeShapes Go.WideShapes Go.Deep
structure RowD where
 kind:Int
 code:Int
 now:Int
 live:Int
 dig:Wl
def d8(r:RowD):Wv:=.int .i64 r.kind :: .int .i64 r.code :: .int .i64 r.now :: .int .i64 r.live :: u8s r.dig
structure RowOk(r:RowD):Prop where
 kind:aE r.kind
 code:aE r.code
 now:aE r.now
 live:aE r.live
 dig:r.dig.length=32
 bytes:∀ b∈r.dig,0<=b/\b<=255
theorem oF{r:RowD}(h:RowOk r):(d8 r).length=36:=by simp[d8,u8s,h.dig]
section
variable {H : Type} {enc : TypeId × Value -> H} {w : Wd} {base : Nat} {spare : Nat -> Bool} {held : Bool}
theorem R8:∀ {cs:Wv},(∀ c∈cs,∃ n:Int,c = .int .u8 n/\0<=n/\n<=255)->∃ d:Wl,cs=u8s d/\∀ b∈d,0<=b/\b<=255
 | [],_=>⟨[],rfl,λ_ h=>by cases h⟩
 | c :: cs,h=>by
  obtain⟨n,rfl,x⟩:=h c (by simp);obtain⟨d,rfl,hd⟩:=R8 (cs:=cs) (λc j=>h c (by simp[j]));exact⟨n :: d,rfl,λb hb=>by
   rcases List.mem_cons.1 hb with rfl|hb
   ·exact x
   ·exact hd b hb⟩
theorem FG{t fuel n:Nat}{cs:Wv}{x:DataW H×List MemPlace}(ht:prog.underlying t=some (.array n 5))(R:prog.cellsOf t=n)(h:DataW.trod enc prog w base spare held fuel t cs=some x):
  ∃ d:Wl,cs=u8s d/\d.length=n/\∀ b∈d,0<=b/\b<=255:=by
 obtain⟨O,m,_,_,K,Z,hi⟩:=DataW.trod_array ht h;have h1:prog.cellsOf 5=1:=by kernel_rfl
 rw[R] at K;rw[h1] at hi;obtain⟨d,rfl,hd⟩:=R8 (cs:=cs) (λc U=>by
  obtain⟨i,D,rfl⟩:=List.getElem_of_mem U
  have j:=hi i (by omega)
  rw[Nat.mul_one] at j
  have e:(cs.drop i).take 1=[cs[i]]:=by rw[List.drop_eq_getElem_cons D];rfl
  rw[e] at j
  have I:O[i]? = some O[i]:=List.getElem?_eq_getElem (by omega)
  rw[I] at j
  obtain⟨k,J,_,V⟩:=DataW.trod_int underlying5 j
  simp only[List.cons.injEq,and_true] at J
  exact⟨k,J,bounds_u8 V⟩)
 exact⟨d,rfl,by simpa [u8s] using K,hd⟩
end
end
section
open Go.RowKit
attribute [local irreducible] wpQuiet wpAnyH
theorem NZ(key:Nat->Nat)(D:Nat)(s:List Nat)(A:Option Addr)(cap:Nat)(w:Wd)(n3:bG key)(hu:D<256)(hk:TabK w)(c7:Byn s)(hs:Sn w 1 (.slice A s.length cap) s.length (n8 s))(hl:24<=s.length)(s4:s.length<=1000000):
  Wc 162 #[.agg (arr 16 (c8 key)).toArray,.int .u8 (D:Nat),.slice A s.length cap] w (E3 w (mT key D s)):=by
 have HS:=jz hs;obtain⟨A',t2,hv,n0,_,hx⟩:=id hs;injection hv with hA _ hca
 subst hA hca;obtain⟨b,off,rfl,hr⟩:=hx (by omega);have r6:=jz hr;have a3:=jz (fun(W:Wd) (hb:Bw w W)=>AF (.slice (some ⟨b,off,none⟩) s.length cap) s W (hs.below hb));rw[decide_eq_true hl] at a3;obtain⟨L,hL⟩:=je s.length;obtain⟨E,hE⟩:∃ E:Nat,E=L-16:=⟨_,rfl⟩;have v5:(L:Int)-16=(E:Int):=by omega
 have r7:E<=L/\8<=E/\E+16=L:=by omega
 have q7:=jz hE;have a0:=jz hL;rw[<- hL] at a3 n0 hl s4 ⊢;obtain⟨PQ,f0⟩:=je (E3 w (mT key D s));have h6:=jz f0;rw[<- f0];obtain⟨w1,a9⟩:=je (w.alloc (.cells (arr 16 (c8 key)).toArray 35));obtain⟨gk,f6⟩:=je w.heap.size;have d5:Hid (Bw w w1):=jz (by rw[a9];exact aH _ _);have g8:Hid (AB w1 gk 35 16 (c8 key)):=jz (by rw[a9,f6];exact Blk.new _ _ _);have s1:prog.arrayLen 308=8:=by kernel_rfl
 have HZ:Hid ((prog.info? 308).map (·.size)=some (arr 8 (c8 (lD s))).toArray.size/\z8x8.size=(arr 8 (c8 (lD s))).toArray.size):=jz ⟨by rw[js,aB];kernel_rfl,by rw[show(arr 8 (c8 (lD s))).toArray.size=8 by simp[arr]];rfl⟩;have a4:Hid ((arr 8 (c8 (lD s))).toArray.all (·.oneCell')=true):=jz (bY (λ_=>rfl));obtain⟨K,hK⟩:=je ((arr 16 (c8 key)).toArray);obtain⟨M,hM⟩:=je ((arr 8 (c8 (lD s))).toArray);have HM:=jz hM;rw[<- hK] at a9 ⊢;rw[<- hM] at a3 HZ a4;clear hs hx hr f0 hK hM hE hL;go_enter func162,ntmps162
 go_upto_region 1 with fail
 rw[<- a9,<- f6];clear a9 f6;go_upto_region 5 with (first
  | (go_at_call 218;refine(a3 w1 d5).mono ?_;rintro e w2 ⟨rfl,f1⟩;have f8:=jz (aA d5 f1);have h0:=jz (g8.keep f1);clear f1)
  | (refine al 308 _ rfl rfl CC ?_)
  | (refine bZ 308 (.tmp 8) (.tmp 18) rfl rfl (by rfl) (by rfl) HZ.out.1 HZ.out.2 a4 ?_;intro w3 k1 f2 s5;have f9:=jz (aA f8 f2);have h2:=jz (h0.keep f2)))
 have t3:(0:Int)<=E:=by omega
 have t4:(E:Int)<=L:=by omega
 have t5:E<=L:=r7.1;have t6:E<=cap:=by omega
 have t7:(L:Int)<=cap:=by omega
 have t9:(E:Int)<=cap:=by omega
 have v0:¬L=E:=by omega
 -- region 5
 refine kZ (n:=13) (λW=>Bw w3 W) ((ji _ _).drew) (h:=λhH=>?_);refine qM 0 (.slice (some ⟨b,off,none⟩) L cap) ?_;refine qM 1 (.int .i64 E) ?_;refine qM 2 (.int .i64 E) ?_;refine qM 4 (.slice (some ⟨b,off,none⟩) L cap) ?_;refine qM 5 (.int .i64 E) ?_;refine qM 6 (.slice (some ⟨b,off,none⟩) L cap) ?_;refine qM 8 (.slice (some ⟨b,off,none⟩) L cap) ?_;refine qT 3 (.slice (some ⟨b,off,none⟩) E E) ?_;refine qT 11 (.slice (some ⟨b,off,none⟩) E E) ?_;refine qT 7 (.int .i64 L) ?_;refine qT 9 (.int .i64 L) ?_;refine qT 10 (.slice (some ⟨b,off+E,none⟩) (L-E) (L-E)) ?_;refine qT 12 (.slice (some ⟨b,off+E,none⟩) (L-E) (L-E)) ?_;refine kE (h:=?_)
 -- end of region 5
 obtain⟨w4,b0⟩:=je w3.drew;have b7:Hid (Bw w w4):=jz (by rw[b0];exact aA f9 (ji _ _).drew);have e0:Hid (AB w4 w2.heap.size 308 8 (c8 (lD s))):=jz (by
  rw[b0]
  have h:Blk w3 w2.heap.size 308 M:=k1
  rw[HM.out] at h
  exact h)
 have h7:Hid (w4.rangeAt gk 0 (arr 16 (c8 key))):=jz (by rw[b0];exact h2.range);obtain⟨gn,n2⟩:=je w2.heap.size;rw[<- n2] at e0 ⊢;rw[<- b0];have h4:Hid ((prog.info? 35).map (·.size)=some (arr 16 (c8 key)).length):=jz (by rw[aB];kernel_rfl);have c5:=jz (CE key w4 n3 (hk.below b7));clear b0 hH k1 f2 s5 n2 f9 h2 f8 h0 d5 g8 a3 HZ a4 s1;have J:Hid ((n8 (mkE key)).length=16/\(n8 (mkM key)).length=32):=jz ⟨by rw[aS];exact fX _ _,by rw[aS];exact k7 key⟩;have a1:Hid ((prog.info? 35).map (·.size)=some (n8 (mkE key)).toArray.size/\z8x16.size=(n8 (mkE key)).toArray.size/\(n8 (mkE key)).toArray.all (·.oneCell')=true):=jz ⟨by rw[js,J.out.1];kernel_rfl,by rw[show(n8 (mkE key)).toArray.size=16 by rw[js];exact J.out.1];rfl,all_oneCell_toArray (dU _)⟩;have a2:Hid ((prog.info? 25).map (·.size)=some (n8 (mkM key)).toArray.size/\zC32.size=(n8 (mkM key)).toArray.size/\(n8 (mkM key)).toArray.all (·.oneCell')=true):=jz ⟨by rw[js,J.out.2];kernel_rfl,by rw[show(n8 (mkM key)).toArray.size=32 by rw[js];exact J.out.2];rfl,all_oneCell_toArray (dU _)⟩;obtain⟨cE,f3⟩:=je (n8 (mkE key));obtain⟨cM,f5⟩:=je (n8 (mkM key));have q4:=jz f3;have q5:=jz f5;rw[<- f3] at a1 J c5;rw[<- f5] at a2 J c5;clear f3 f5;go_upto_region 7 with (first
  | (refine ld 35 (.tmp 3) rfl rfl (by rfl) h7 underlying35 rfl h4 ?_)
  | (go_at_call 219;refine c5.mono ?_;rintro e w5 ⟨rfl,s3⟩;have c9:=jz s3)
  | (refine al 35 _ rfl rfl fE ?_)
  | (refine al 25 _ rfl rfl B9 ?_)
  | (refine aP 35 (.tmp 13) (.tmp 39) rfl rfl (by rfl) (by rfl) ((Blk.new w5 35 z8x16).alloc _) a1.out.1 a1.out.2.1 a1.out.2.2 ?_;intro w6 k2 m6 n6 t0;have k4:Blk w6 (w5.heap.size+1) 25 zC32:=(n6 _ (by omega)).trans (Blk.newAt _ _ _ _ (by simp)))
  | (show wpList _ _ _ [_] _ _;refine Z1 ?_))
 unfold Stp;refine aP 25 (.tmp 14) (.tmp 40) rfl rfl (by rfl) (by rfl) k4 a2.out.1 a2.out.2.1 a2.out.2.2 ?_;intro O k3 m8 q0 t1;have d0:Blk O w5.heap.size 35 cE.toArray:=(q0 _ (by omega)).trans k2;have d2:Bw w5 O:=(((ji _ w5).alloc (ja _) _).alloc (by simp) _).trans (m6.trans (m8.mono (by omega)));obtain⟨a5,Z⟩:=je w5.heap.size;have g3:Hid (Blk O a5 35 cE.toArray):=jz (by rw[Z];exact d0);have h5:Hid (Blk O (a5+1) 25 cM.toArray):=jz (by rw[Z];exact k3);have V:Hid (Bw w4 O):=jz (aA c9 d2);rw[<- Z];clear d0 d2 k2 m6 n6 t0 k4 k3 m8 q0 t1 a1 a2 c5 h4 h7 Z c9;have c4:Hid (∀ W,Bw O W->∀ j u,(n8 s)[j]? = some u->W.cell? ⟨b,off+j,none⟩=some u):=jz (λW hW j u R=>j9 hW (j9 V (j9 b7 (r6 j u R))));have h3:Hid (TabK O):=jz ((hk.below b7).below V);clear hk;go_wp2_with fail
 obtain⟨U,b1⟩:=je ((O.alloc (.cells #[.int .u8 (D:Nat)] 5)).alloc (.cells #[.slice (some ⟨O.heap.size,0,none⟩) 1 1,.slice (some ⟨b,off,none⟩) E E] 68));have a7:(d3 s).length=E:=by unfold d3;rw[jv,<- a0.out];omega
 have c6:(nF s).length=L-E:=by unfold nF;rw[List.length_drop,<- a0.out];omega
 have I:Bw O U:=by rw[b1];exact aA (aH _ _) (aH _ _)
 have m2:Sn U 1 (.slice (some ⟨O.heap.size,0,none⟩) 1 1) 1 (n8 [D]):=by
  have h:=(Sn.new O #[.int .u8 (D:Nat)] 5 1 1 rfl).alloc (.cells #[.slice (some ⟨O.heap.size,0,none⟩) 1 1,.slice (some ⟨b,off,none⟩) E E] 68);rw[<- b1] at h;exact h
 have m3:Sn U 1 (.slice (some ⟨b,off,none⟩) E E) (d3 s).length (n8 (d3 s)):=by
  rw[a7];refine⟨_,E,rfl,ja _,by rw[aS,a7,Nat.mul_one],λ_=>⟨b,off,rfl,λj u R=>c4.out U I j u ?_⟩⟩;unfold d3 n8 at R;rw[List.map_take,List.getElem?_take] at R;split at R
  ·exact R
  ·cases R
 have m4:Sn U 1 (.slice (some ⟨b,off+E,none⟩) (L-E) (L-E)) (nF s).length (n8 (nF s)):=by
  rw[c6];refine⟨_,L-E,rfl,ja _,by rw[aS,c6,Nat.mul_one],λ_=>⟨b,off+E,rfl,λj u R=>?_⟩⟩;have h:=c4.out U I (E+j) u (by
   unfold nF n8 at R
   rw[List.map_drop,List.getElem?_drop,<- a0.out,<- q7.out] at R
   exact R)
  rw[<- Nat.add_assoc] at h;exact h
 have hP:PN U (.slice (some ⟨O.heap.size+1,0,none⟩) 2 2) [(.slice (some ⟨O.heap.size,0,none⟩) 1 1,[D]),(.slice (some ⟨b,off,none⟩) E E,d3 s)]:=by
  refine G4 _ 2 rfl ?_ (λp hp=>?_) (λp hp=>?_)
  ·have h:=(Blk.newAt (O.alloc (.cells #[.int .u8 (D:Nat)] 5)) 68 #[.slice (some ⟨O.heap.size,0,none⟩) 1 1,.slice (some ⟨b,off,none⟩) E E] (O.heap.size+1) (by simp)).range;rw[<- b1] at h;exact h
  ·simp only[jl,j8,or_false] at hp;rcases hp with rfl|rfl
   ·exact m2
   ·exact m3
  ·simp only[jl,j8,or_false] at hp;rcases hp with rfl|rfl
   ·intro x hx;rw[List.mem_singleton.1 hx];exact hu
   ·exact λx hx=>c7 x (j7 hx)
 have f7:(mkM key).length=32:=k7 key;have m1:Sn U 1 (.slice (some ⟨a5+1,0,none⟩) 32 32) (mkM key).length (n8 (mkM key)):=by
  rw[f7];refine⟨_,32,rfl,ja _,by rw[aS,f7],λ_=>⟨a5+1,0,rfl,?_⟩⟩;have h:=(h5.keep I).range;rw[jt,q5.out] at h;exact h
 have d7:=jz (aA b7 (aA V I));have c3:=jz (NC _ _ _ (mkM key) (nF s) _ U m1 (λx hx=>by unfold mkM at hx;exact kO _ x (j7 hx)) (by omega) hP (by simp) (by
  show([D]++(d3 s++[])).length<=_
  rw[jj,jj,a7]
  show 1+(E+0)<=_
  omega) (h3.below I) m4 (λx hx=>c7 x (List.mem_of_mem_drop hx)) (by omega) (by omega))
 have g2:Hid (decide (nF s=(jI (mkM key) (cQ [(Value.slice (some ⟨O.heap.size,0,none⟩) 1 1,[D]),(.slice (some ⟨b,off,none⟩) E E,d3 s)])).take (nF s).length)=decide (nF s=(jI (mkM key) (D :: d3 s)).take 16)):=jz (by
  have e1:cQ [(Value.slice (some ⟨O.heap.size,0,none⟩) 1 1,[D]),(.slice (some ⟨b,off,none⟩) E E,d3 s)]=D :: d3 s:=by
   show [D]++(d3 s++[])=_
   rw[List.append_nil];rfl
  rw[e1,c6,show L-E=16 from by omega])
 rw[g2.out] at c3;have q6:Hid (AB U a5 35 16 (c8 (nth (mkE key)))):=jz (by
  have h:=g3.keep I
  have n4:(mkE key).length=16:=fX _ _
  rw[q4.out,BQ n4] at h
  exact h)
 have r3:Hid (AB U gn 308 8 (c8 (lD s))):=jz ((e0.keep V).keep I);have h9:Hid (∀ W,Bw U W->∀ j u,(n8 s)[j]? = some u->W.cell? ⟨b,off+j,none⟩=some u):=jz (λW hW j u R=>c4.out W (aA I hW) j u R);have r0:=jz a7;rw[<- b1];clear b1 a7 c6 I m2 m3 m4 m1 hP f7 g2 h3 c4 h5 g3 V e0 J;have HO:Hid (mT key D s=if nF s=(jI (mkM key) (D :: d3 s)).take 16 then some (arr (s.length-24) (iS (nth (mkE key)) (nth s) (nth ((d3 s).drop 8)) (s.length-24))) else none):=jz (by unfold mT;rw[jQ (by rw[<- a0.out];omega)]);obtain⟨ok,a8⟩:=je (decide (nF s=(jI (mkM key) (D :: d3 s)).take 16));rw[<- a8] at c3;refine c3.mono ?_;rintro e w9 ⟨rfl,m9⟩;have g0:=jz m9;clear m9 c3;cases ok with
 | false=>
  rw[jQ (of_decide_eq_false a8.symm)] at HO;clear a8;go_wp2_with fail
  first|go_ret2|skip
  rw[h6.out,HO.out];exact⟨aA d7 g0,rfl⟩
 | true=>
  rw[jP (of_decide_eq_true a8.symm)] at HO;clear a8;have v3:(8:Int)<=E:=by omega
  have v4:8<=E:=by omega
  obtain⟨bs,a6⟩:=je ((d3 s).drop 8);have c2:Hid (bs.length=E-8):=jz (by rw[a6,List.length_drop,r0.out]);have q3:Hid (bG (nth bs)):=jz (lR (λx hx=>by rw[a6] at hx;exact c7 x (j7 (List.mem_of_mem_drop hx))));obtain⟨X,hX⟩:=je ((if E=8 then some (⟨b,off,none⟩:Addr) else some ⟨b,off+8,none⟩));have k0:Hid (∀ W,Bw U W->Sn W 1 (.slice X (E-8) (E-8)) (E-8) (n8 bs)):=jz (λW hW=>by
   refine⟨_,E-8,rfl,ja _,by rw[aS,c2.out,Nat.mul_one],λhp=>⟨b,off+8,by rw[hX,jQ (by omega)],λj u R=>?_⟩⟩
   have h:=h9.out W hW (8+j) u (by
    rw[a6] at R
    unfold d3 n8 at R
    rw[List.map_drop,List.getElem?_drop,List.map_take,List.getElem?_take] at R
    split at R
    ·exact R
    ·cases R)
   rw[<- Nat.add_assoc] at h
   exact h)
  have g1:=jz (fun(W:Wd) (hW:Bw U W)=>NG (nth (mkE key)) (lD s) bs X (E-8) W (lR (by unfold mkE;exact EA _ _)) (by unfold lD;split;exact lR c7;exact λ_=>Nat.zero_lt_succ _) q3 (by rw[c2.out];exact k0 W hW) (by rw[c2.out];omega));rw[c2.out] at g1;rw[<- a6] at HO;have r5:Hid (lD s=nth s):=jz (by unfold lD;rw[jP (by rw[<- a0.out];exact hl)]);have r2:Hid (s.length-24=E-8):=jz (by rw[<- a0.out];omega);clear a6 h9 k0;go_upto_region 9 with fail
  refine kZ (n:=9) (λW=>Bw U W) (aA g0 (ji _ _).drew) (h:=λhH=>?_);refine qL 0 (cs:=arr 16 (c8 (nth (mkE key)))) (λW hW=>(q6.keep hW).range) (aB _ _) ?_;refine qL 1 (cs:=arr 8 (c8 (lD s))) (λW hW=>(r3.keep hW).range) (aB _ _) ?_;refine qM 2 (.slice (some ⟨b,off,none⟩) E E) ?_;refine qM 3 (.int .i64 E) ?_;refine qM 4 (.int .i64 E) ?_;refine kT 5 (some 54) (.slice X (E-8) (E-8)) (hy:=λW hW=>by
   rw[hX]
   by_cases h8:E=8
   ·subst h8
    unfold execOp
    go_simp
   ·rw[jQ h8]
    unfold execOp
    go_simp) (h:=?_)
  simp only[jq];refine kF 6 (some 55) ((g1 _ hH).mono ?_);rintro e v6 ⟨gb,rfl,m5,n1,d1⟩;have e8:=aA hH d1;refine⟨_,rfl,e8,λs0=>?_⟩;simp only[jq];refine qT 7 (.slice (some ⟨gb,0,none⟩) (E-8) (E-8)) ?_;refine qT 8 (.bool true) ?_;refine kE (h:=?_);have q1:=jz m5;have r1:Hid (w.heap.size<=gb):=jz (jm (jm d7.size hH.size) n1);have q2:=jz (aA d7 e8);clear m5 n1 d1 hH e8 s0;go_wp2_with fail
  first|go_ret2|skip
  rw[h6.out,HO.out,r2.out];refine⟨q2,gb,?_,r1,?_⟩
  ·rw[aB];rfl
  ·have h:=q1.out;rw[r5.out] at h;rw[K5];exact h
theorem rI{key:Nat->Nat}{j:Nat}{s:List Nat}{b:List Nat}(hs:Byn s)(h:mT key j s=some b):Byn b/\b.length<=s.length:=by
 unfold mT at h;split at h
 ·cases h
 split at h
 ·injection h with h
  subst h;rw[aB];refine⟨KN (λk=>?_),Nat.sub_le _ _⟩;have D:bG (nth ((d3 s).drop 8)):=lR (λx I=>hs x (j7 (List.mem_of_mem_drop I)));unfold iS;split
  ·exact Nat.xor_lt_two_pow (n:=8) (D k) (KZ (lR (EA _ _)) (B0 (lR hs) _ 8) _)
  ·exact D k
 ·cases h
theorem FI(key:Nat->Nat)(j:Nat)(s:List Nat)(v:Value)(w:Wd)(x:bG key)(K:j<256)(J:TabK w)(I:Byn s)(hs:Sn w 1 v s.length (n8 s))(D:s.length<=1000000):
  Wc 162 #[.agg (arr 16 (c8 key)).toArray,.int .u8 (j:Nat),v] w (E3 w (mT key j s)):=by
 obtain⟨A,cap,rfl,_⟩:=id hs;rcases jo s.length 24 with h|h
 ·exact IQ key j s _ w hs h
 ·exact NZ key j s A cap w x K J I hs h D
end
section
open Go.RowKit
def namesL:List ByteArray:=[⟨#[78,79,78,69]⟩,⟨#[77,65,76,70,79,82,77,69,68]⟩,⟨#[66,65,68,95,73,78,84,69,71,82,73,84,89]⟩,⟨#[84,75,84,95,78,89,86]⟩,⟨#[84,75,84,95,69,88,80,73,82,69,68]⟩,⟨#[66,65,68,77,65,84,67,72]⟩,⟨#[83,75,69,87]⟩,⟨#[81,85,65,82,65,78,84,73,78,69]⟩,⟨#[82,69,80,69,65,84]⟩,⟨#[83,84,79,82,65,71,69]⟩,⟨#[65,67,67,69,80,84]⟩,⟨#[70,65,73,76,69,68]⟩,⟨#[68,79,87,78]⟩,⟨#[70,85,76,76]⟩,⟨#[67,79,82,82,85,80,84]⟩,⟨#[66,65,68]⟩,⟨#[83,89,78,84,65,88]⟩]
def i6(c:Int):ByteArray:=if 0<=c/\c<=16 then namesL.getD c.toNat ByteArray.empty else ByteArray.empty
theorem I6(c:Int)(h:c<0\/16<c):i6 c=ByteArray.empty:=by unfold i6;rw[jQ (by omega)]
theorem N0(c:Nat)(h:c<17):([Value.string ⟨#[78,79,78,69]⟩,Value.string ⟨#[77,65,76,70,79,82,77,69,68]⟩,Value.string ⟨#[66,65,68,95,73,78,84,69,71,82,73,84,89]⟩,Value.string ⟨#[84,75,84,95,78,89,86]⟩,Value.string ⟨#[84,75,84,95,69,88,80,73,82,69,68]⟩,Value.string ⟨#[66,65,68,77,65,84,67,72]⟩,Value.string ⟨#[83,75,69,87]⟩,Value.string ⟨#[81,85,65,82,65,78,84,73,78,69]⟩,Value.string ⟨#[82,69,80,69,65,84]⟩,Value.string ⟨#[83,84,79,82,65,71,69]⟩,Value.string ⟨#[65,67,67,69,80,84]⟩,Value.string ⟨#[70,65,73,76,69,68]⟩,Value.string ⟨#[68,79,87,78]⟩,Value.string ⟨#[70,85,76,76]⟩,Value.string ⟨#[67,79,82,82,85,80,84]⟩,Value.string ⟨#[66,65,68]⟩,Value.string ⟨#[83,89,78,84,65,88]⟩])[c] = .string (i6 c):=by
 have j:c=0\/c=1\/c=2\/c=3\/c=4\/c=5\/c=6\/c=7\/c=8\/c=9\/c=10\/c=11\/c=12\/c=13\/c=14\/c=15\/c=16:=by omega
 rcases j with rfl|rfl|rfl|rfl|rfl|rfl|rfl|rfl|rfl|rfl|rfl|rfl|rfl|rfl|rfl|rfl|rfl <;> rfl
theorem I7{v:Value}{s:ByteArray}(h:v = .string s):Ending.returned v = .returned (.string s):=by rw[h]
theorem R9(c:Int)(j:c<0\/16<c)(w:Wd):
  Wc 19 #[.int .i64 c] w (Rt w (.string (i6 c))):=by
 have x:=jz (I6 c j);rcases j with j|j
 all_goals
  go_enter func19,ntmps19
  go_wp2
  go_ret;exact⟨by rw[x.out];rfl,ji _ _⟩
theorem V6(c:Nat)(D:c<=16)(w:Wd):
  Wc 19 #[.int .i64 c] w (Rt w (.string (i6 c))):=by
 have x:¬((c:Int)<0):=by omega
 have h1:¬((16:Int)<c):=by omega
 have j:c<17:=by omega
 go_enter func19,ntmps19
 go_wp2
 go_ret;exact⟨I7 (N0 c j),(by repeat (first|exact ji _ _|assumption|refine cA ?_ _|refine Below.setCell ?_ (by first|exact ja _|assumption|omega|(simp <;> omega)) _|refine Below.alloc ?_ (by first|exact ja _|assumption|omega|(simp <;> omega)) _))⟩
theorem SD(c:Int)(w:Wd):
  Wc 19 #[.int .i64 c] w (Rt w (.string (i6 c))):=by
 by_cases h:c<0\/16<c
 ·exact R9 c h w
 ·obtain⟨n,rfl⟩:∃ n:Nat,c=n:=⟨c.toNat,by omega⟩;exact V6 n (by omega) w
end
section
open Go.RowKit
attribute [local irreducible] wpQuiet wpAnyH
theorem LG(n:Nat)(h:n<=1099511627776)(W:Wd):(convert 3 141 (.int .i64 (n:Int))).run prog W = .ok (.int .u64 (n:Int)) W:=by
 have h1:=run_convert_int (P:=prog) (w:=W) 3 141 .i64 (n:Int) (by kernel_rfl) (by kernel_rfl);have e:prog.intKind 141 = .u64:=by kernel_rfl
 rw[e] at h1;rw[h1,show IntKind.u64.wrap (n:Int)=(n:Int) from by
  unfold IntKind.wrap
  simp[IntKind.signed,IntKind.bits]
  omega]
theorem I8{w:Wd}{base base' e x s s' n n':Nat}{v v':Value}{K O:Wv}(h:w.ownsRow base e s v n K)(J:w.ownsRow base' x s' v' n' O)(D:x≠e):∀ b,v'.ownBlock=some b->some b≠v.ownBlock:=λb hb=>by
 obtain⟨_,h1|⟨I,cap,j,rfl,_,hg,_⟩⟩:=J
 ·rw[h1.1] at hb;cases hb
 ·injection hb with hb
  subst hb;exact cJ h (show Blk w I x j from hg) D
theorem SE(w:Wd)(cs:Wa)(e s n base g:Nat)(hb:base<=w.heap.size)(hs:cs.size=n*s)(j:n<=maxLen)(hg:w.heap.size=g):(w.alloc (.cells cs e)).ownsRow base e s (.slice (some ⟨g,0,none⟩) n n) n cs.toList:=by
 subst hg;refine⟨by rw[jk,hs],.inr ⟨w.heap.size,n,cs,rfl,hb,heap_alloc_new w _,ja _,j,hs,?_⟩⟩;exact List.take_of_length_le (by rw[jk,hs];exact ja _)
theorem xZ{w w':Wd}{base base' e j s s' n n':Nat}{v v':Value}{J I:Wv}(hg:w.grownBy w' v.ownBlock)(h:w.ownsRow base e s v n J)(x:w.ownsRow base' j s' v' n' I)(D:j≠e):w'.ownsRow base' j s' v' n' I:=
 aQ x (λb hb=>hg.block b (x.lt b hb).2 (I8 h x D b hb))
theorem LH{w:Wd}{A:Option Addr}{cap:Nat}{l:List Bs}(h:Sn w 1 (.slice A l.length cap) l.length (fF l))(k:Nat)(D:k<l.length):∃ b off,A=some ⟨b,off,none⟩/\w.cell? ⟨b,off+k,none⟩=some (.string (cV l[k])):=by
 obtain⟨J,j,hv,_,_,I⟩:=h;injection hv with hA _ _
 subst hA;obtain⟨b,off,rfl,x⟩:=I (by omega);exact⟨b,off,rfl,x k _ (by simp[fF,D])⟩
theorem x6(n:Nm)(A:Option Addr)(cap:Nat)(w:Wd)(V:NmOk n)(hs:Sn w 1 (.slice A n.parts.length cap) n.parts.length (fF n.parts)):
  Wc 224 #[.agg #[.string (cV n.realm),.slice A n.parts.length cap]] w (Rt w (.bool true)):=by
 have HN:=jz V;have HS:=jz hs;have HL:=jz (iC V.realm);have HW:Hid (∀ W,Wc 285 #[.string (cV n.realm)] W (Rt W (.bool true))):=jz (λW=>by
  have h:=o0 n.realm W (by have:=HL.out;omega)
  rw[V.realm] at h
  exact h)
 obtain⟨S,hS⟩:=je (cV n.realm);rw[<- hS] at HW ⊢;obtain⟨m,hm⟩:=je n.parts.length;have hf:=V.few;rw[<- hm] at hf HS ⊢;have HM:=jz hm;clear V hs hS hm;obtain⟨g,hg⟩:=je w.heap.size;obtain⟨w1,j⟩:=je (w.alloc (.cells #[.string S,.slice A m cap] 121));have I:Hid (Bw w w1):=jz (by rw[j];exact aH _ _);have x:Hid (Blk w1 g 121 #[.string S,.slice A m cap]):=jz (by rw[j,hg];exact Blk.new _ _ _);go_enter func224,ntmps224
 go_upto_region 1 with fail
 rw[<- j,<- hg];clear j hg;have c0:=x.cell 0;simp only[jf,jg] at c0;go_wp2_with fail
 refine(HW w1).mono ?_;rintro e w2 ⟨rfl,D⟩;have K:=jz (x.keep D);have J:=jz (aA I D);clear D c0;have c1:=K.cell 1;simp only[jf,jh,jg] at c1;have t1:¬(m:Int)<1:=by omega
 have t2:¬(8:Int)<m:=by omega
 go_wp2_with fail
 go_loopw [24] (λi wr=>∃ k:Nat,k<=m/\i = .int .i64 k/\Hid (Bw w wr)) (λi _=>m-(intOf i).toNat)
 case atStart=>exact⟨0,j0 _,rfl,J⟩
 case round=>
  clear J K I x c1 HW;obtain⟨k,hk,rfl,Z⟩:=hrel;rcases jo k m with a1|a3
  ·have U:k<n.parts.length:=by rw[<- HM.out];exact a1
   obtain⟨b,off,rfl,hc⟩:=LH (w:=wr) (A:=A) (cap:=cap) (by rw[<- HM.out];exact HS.below Z) k U;have hw:=HN.parts _ (List.getElem_mem U);have a2:=iC hw;have O:Hid (Wc 285 #[.string (cV n.parts[k])] wr (Rt wr (.bool true))):=jz (by
    have h:=o0 n.parts[k] wr (by omega)
    rw[hw] at h
    exact h)
   obtain⟨T,hT⟩:=je (cV n.parts[k]);rw[<- hT] at hc O;have a4:(0:Int)<=k:=by omega
   have a5:(k:Int)<m:=by omega
   clear hT hw a2;go_wp2_with fail
   refine O.mono ?_;rintro e w3 ⟨rfl,R⟩;have a0:=jz (aA Z R);clear R;go_wp2_with fail
   exact⟨⟨k+1,by omega,by go_num,a0⟩,by simp[intOf];omega⟩
  ·obtain rfl:k=m:=by omega
   go_wp2_with fail
   go_ret;exact⟨rfl,Z⟩
theorem SF(b:List Nat)(v:Value)(w:Wd)(hs:Sn w 1 v b.length (n8 b))(hl:b.length<256):
  Wc 225 #[.int .i64 1,v] w λe w'=>∃ y,e = .returned (.tuple #[y,.bool true])/\w'.ownsRow w.heap.size 5 1 y (b.length+1) (n8 (b.length :: b))/\Bw w w':=by
 obtain⟨A,cap,rfl,_⟩:=id hs;have HS:=jz hs;obtain⟨n,hn⟩:=je b.length;have HN:=jz (lG 1 n w (by omega) (by omega) (by omega));have a5:=LG n (by omega);have V:=jz hn;rw[<- hn] at HS hl ⊢;have U:=jz hl;clear hs hl hn;have e1:((1:Nat):Int)=1:=rfl;rw[e1] at HN;clear e1;go_enter func225,ntmps225
 go_wp2_with fail
 refine HN.mono ?_;rintro e w1 ⟨v1,rfl,I,a0⟩;obtain⟨J,c1,rfl,_,_⟩:=bO I;have Z:=jz I;have K:=jz a0;clear I a0 HN a5;go_wp2_with fail
 obtain⟨w2,x⟩:=je (w1.alloc (.cells #[.slice J 1 c1,.slice A n cap] 68));have j:Bw w1 w2:=by rw[x];exact aH _ _
 have hP:Parts w2 (.slice (some ⟨w1.heap.size,0,none⟩) 2 2) [(.slice J 1 c1,beB 1 n),(.slice A n cap,cY b)]:=by
  refine⟨?_,λp hp=>?_⟩
  ·have h:=Sn.new w1 #[.slice J 1 c1,.slice A n cap] 68 1 2 rfl;rw[<- x] at h;exact h
  ·simp only[jl,j8,or_false] at hp;rcases hp with rfl|rfl
   ·have h:=(Sn.own Z).below j;simp only[bR];exact h
   ·have h:=HS.below (aA K j);simp only[aV,<- V.out];rw[<- fK];exact h
 have D:Hid (eB [(Value.slice J 1 c1,beB 1 n),(.slice A n cap,cY b)]=n+1):=jz (by
  unfold eB
  simp only[List.map_cons,List.map_nil,List.sum_cons,List.sum_nil,bR,aV,<- V.out]
  omega)
 have R:Hid (u8s (cat [(Value.slice J 1 c1,beB 1 n),(.slice A n cap,cY b)])=n8 (n :: b)):=jz (by
  have h1:beB 1 n=[((n % 256:Nat):Int)]:=by unfold beB;simp[beB]
  have h2:n % 256=n:=Nat.mod_eq_of_lt U.out
  show u8s (beB 1 n++(cY b++[]))=_
  rw[List.append_nil,fN,<- fK,h1,h2]
  rfl)
 have HJ:=jz (lX _ _ w2 hP (by simp) (by rw[D.out];have:=U.out;omega));rw[D.out,R.out] at HJ;have O:=jz (aA K j);rw[<- x];clear x hP j D R Z;refine HJ.mono ?_;rintro e w3 ⟨y,rfl,a2,a1⟩;have a4:=jz (bI a2 O.size);have a3:=jz (aA O a1);clear a2 a1 HJ;go_wp2_with fail
 first|go_ret2|skip
 exact⟨y,rfl,a4,a3⟩
end
section
open Go.RowKit
def FJ(r:RowD):List UInt8:=b8 r.kind++[32]++(i6 r.code).data.toList++[32]++Lib.itoa r.now++[32]++Lib.itoa r.live++[10]
def fH(l:List RowD):List UInt8:=l.flatMap FJ
theorem I9(l:List RowD)(k:Nat)(h:k<l.length):fH (l.take (k+1))=fH (l.take k)++FJ l[k]:=by
 unfold fH;rw[j6 h,List.flatMap_append];simp
theorem FK(c:Int):(i6 c).size<=13:=by
 unfold i6;split
 ·rename_i h;obtain⟨n,rfl⟩:∃ n:Nat,c=n:=⟨c.toNat,by omega⟩;have j:n=0\/n=1\/n=2\/n=3\/n=4\/n=5\/n=6\/n=7\/n=8\/n=9\/n=10\/n=11\/n=12\/n=13\/n=14\/n=15\/n=16:=by omega
  rcases j with rfl|rfl|rfl|rfl|rfl|rfl|rfl|rfl|rfl|rfl|rfl|rfl|rfl|rfl|rfl|rfl|rfl <;> decide
 ·decide
theorem FM(k:Int):(b8 k).length<=7:=by
 unfold b8
 repeat (first|split|decide)
theorem N1(r:RowD)(h1:aE r.now)(j:aE r.live):(FJ r).length<=64:=by
 have a:=kY r.now h1.1 h1.2;have b:=kY r.live j.1 j.2;have c:=FM r.kind;have d:=FK r.code;have e:(i6 r.code).data.toList.length=(i6 r.code).size:=by rw[jk];rfl
 simp only[FJ,jj,List.length_cons,List.length_nil,e];omega
theorem N2(l:List RowD)(h:∀ r∈l,aE r.now/\aE r.live):(fH l).length<=64*l.length:=by
 induction l with
 | nil=>simp[fH]
 | cons f fs ih=>
  have h1:=N1 f (h f (by simp)).1 (h f (by simp)).2;have j:=ih (λg hg=>h g (by simp[hg]));unfold fH at j ⊢;rw[List.flatMap_cons,jj,List.length_cons];omega
end
end Go.Proofs.YtiaigidbcljblaaGreatDoor
