import Derived.Test.YtiaigidbcljblaaGreatDoorMS5
import Derived.Test.YtiaigidbcljblaaGreatDoorMS4
import Derived.Deep.DeepCutAuto
set_option linter.unusedSimpArgs false
set_option maxRecDepth 100000
set_option maxHeartbeats 40000000
namespace Go.Proofs.YtiaigidbcljblaaGreatDoor
open Go.Proofs.Tryz
section
open Go.RowKit
attribute [local irreducible] wpQuiet wpAnyH
def fW(cut:Nat->Int)(r:List Wl)(l:List (Int×Wl)):Nat->List Wl
 | 0=>r
 | j+1=>(fW cut r l j).set (l.getD j (0,[])).1.toNat (eP ((fW cut r l j).getD (l.getD j (0,[])).1.toNat []) (l.getD j (0,[])).2 (cut j))
theorem oS(cut:Nat->Int)(r:List Wl)(l:List (Int×Wl)):∀ j,(fW cut r l j).length=r.length
 | 0=>rfl
 | j+1=>by unfold fW;rw[List.length_set,oS cut r l j]
theorem rV(cut:Nat->Int)(r:List Wl)(l:List (Int×Wl))(I:∀ s∈r,Sec s)(x:∀ p∈l,0<=p.1/\p.1<r.length/\Sec p.2):∀ j,j<=l.length->∀ s∈fW cut r l j,Sec s
 | 0,_=>I
 | j+1,hj=>λs hs=>by
  have ih:=rV cut r l I x j (by omega);unfold fW at hs;rcases List.mem_or_eq_of_mem_set hs with h|h
  ·exact ih s h
  ·have K:=x l[j] (List.getElem_mem (by omega));have J:l.getD j (0,[])=l[j]:=by simp[jn,show j<l.length by omega]
   rw[h,J];have D:=oS cut r l j;refine rR _ ?_ K.2.2;rw[show(fW cut r l j).getD l[j].1.toNat []=(fW cut r l j)[l[j].1.toNat]'(by omega) by simp[jn,show l[j].1.toNat<(fW cut r l j).length by omega]];exact ih _ (List.getElem_mem _)
section
variable {P : Program} {ops : Array Oper} {Q : Exit -> Act -> Wd -> Prop} {S : Wd -> Prop} {a : Act} {w : Wd} {listed : Array Bool} {fuel : Nat}
theorem PJ{D:List Nat}(i:Nat)(ty:TypeId)(x:Operand)(dst:Option Tmp){b off:Nat}{cs:Wv}{d:TypeDesc}(hd:(ops[i]?).map (λo=>(o.op,o.dst))=some (.load ty x,dst))(O:(ops[i]?).map (λo=>Region.wanted o (yielded ops a.tmps))=some true)
  (R:a.eval x = .pointer (some ⟨b,off,none⟩)) (I:w.rangeAt b off cs) (K:P.underlying ty=some d) (j:d.isRow=true) (hi:(P.info? ty).map (·.size)=some cs.length) (hS:S w)
  (h:wpAnyH P .any ops Q S fuel (listed.setIfInBounds i true) (a.put dst (.agg cs.toArray)) w) (hs:AllReadyH P .any ops Q S fuel listed a w D):AllReadyH P .any ops Q S fuel listed a w (i :: D):=
 DB i _ dst _ _ hd O (λo J=>by
  unfold execOp
  simp only[J,R,Instr.loadAt,Instr.sureAddr,Sem.run_bind,Sem.run_pure,Result.andThen_ok,run_loadVar_mid w b off ty cs d I K j hi]) hS h hs
end
theorem T9(A:Option Addr)(n cap:Nat)(J:Wv)(w:Wd)(hs:Sn w 64 (.slice A n cap) n J)(h1:∀ u∈J,u.oneCell'=true)(hn:n<=100000):
  Wc 230 #[.slice A n cap] w λe w'=>∃ v,e = .returned v/\w'.ownsRow w.heap.size 243 64 v n J/\Bw w w':=by
 have V:=jz hs;clear hs;cases A with
 | none=>
  have O:∀ w:Wd,(binOp .eql 46 (.slice none n cap) (.slice none 0 0)).run prog w = .ok (.bool true) w:=λ_=>rfl
  obtain⟨A',c',hv,_,Z,hx⟩:=V.out;have I:J.length=0:=by
   rcases Nat.eq_zero_or_pos n with K|K
   ·rw[Z,K]
   ·obtain⟨g,off,e,_⟩:=hx K;injection hv with e1 _ _
    rw[<- e1] at e;cases e
  have R:n=0:=by omega
  have U:J=[]:=List.eq_nil_of_length_eq_zero I;subst R U;clear hv Z hx I;go_enter func230,ntmps230
  go_wp2_with fail
  go_ret;exact⟨_,rfl,World.ownsRow_nil _ _ _ _,ji _ _⟩
 | some a=>
  have O:∀ w:Wd,(binOp .eql 46 (.slice (some a) n cap) (.slice none 0 0)).run prog w = .ok (.bool false) w:=λ_=>rfl
  have x:(w.alloc (.cells #[] 243)).ownsRow w.heap.size 243 64 (.slice (some ⟨w.heap.size,0,none⟩) 0 0) 0 []:=uG w #[] 243 64 0 w.heap.size w.heap.size (ja _) rfl (by unfold maxLen;omega) rfl;have hT:SlT prog 46 243 64 64:=SlT.mk' underlying46 (z:=.agg (u8s (List.replicate 64 0)).toArray) (by kernel_rfl) rfl (by decide);go_enter func230,ntmps230
  go_wp2_with (at_builtin;refine app hT (.tmp 5) (.tmp 6) rfl rfl rfl x rfl (V.alloc _) h1 (by unfold maxLen;omega) (by omega) (by simp) ?_;intro v' w3 j D _)
  go_ret;have hb:Bw w w3:=((ji _ w).alloc (ja _) _).grown D (by simp) (λg hg=>by have:=(x.lt g hg).1;omega);rw[Nat.zero_add,List.nil_append] at j;exact⟨_,rfl,j,hb⟩
theorem GW(j:Nat)(R:Nat)(cs:Wl)(A:Option Addr)(cap:Nat)(w:Wd)(hb:w.cell? ⟨R,0,none⟩=some (.slice A cs.length cap))(hs:Sn w 1 (.slice A cs.length cap) cs.length (lV cs))(hj:j<=1000000)(a0:cs.length<=1000000):
  Wc 177 #[.int .i64 (j:Int),.pointer (some ⟨R,0,none⟩)] w λe w'=>e = .returned (.int .i64 (cs.getD j 0))/\w'=w:=by
 have Z:=jz hs;clear hs;generalize hG:cs.getD j 0=G;have D:=jz hG;clear hG;rcases jo j cs.length with J|O
 ·obtain⟨A',U,hv,_,_,V⟩:=Z.out;injection hv with e1 _ e3
  subst e1 e3;obtain⟨b,off,rfl,x⟩:=V (by omega);have hc:=x j (.int .i64 cs[j]) (by simp[lV,J]);have K:Hid (G=cs[j]):=jz (by rw[<- D.out];simp[jn,J]);obtain⟨c,I⟩:=je (cs[j]);rw[<- I] at hc K;clear x I V;have h0:(0:Int)<=j:=by omega
  have h1:(j:Int)<cs.length:=by omega
  go_enter func177,ntmps177
  go_wp2_with fail
  go_ret;exact⟨by rw[K.out];rfl,rfl⟩
 ·have K:Hid (G=0):=jz (by rw[<- D.out];simp[jn,Nat.not_lt.2 O]);have t1:decide ((j:Int)<cs.length)=false:=by simp;omega
  have t2:decide (j<cs.length)=false:=by simp;omega
  go_enter func177,ntmps177
  go_wp2_with fail
  go_ret;exact⟨by rw[K.out];rfl,rfl⟩
def SB7(g:Nat)(p:Int×Wl)(w:Wd):Prop:=w.rangeAt g 0 (wrC p)
theorem PK:∀ w,(zeroValue 363).run prog w = .ok (.agg (wrC (0,List.replicate 64 0)).toArray) w:=λw=>by kernel_rfl
theorem PM(sec:List Wl)(opn:List (Int×Wl))(As Ao:Option Addr)(cs co bp:Nat)(cut:Nat->Int)(w:Wd)
  (hs:Sn w 64 (.slice As sec.length cs) sec.length (sec.flatMap u8s)) (ho:Sn w 65 (.slice Ao opn.length co) opn.length (opn.flatMap wrC))
  (c5:∀ s∈sec,Sec s) (c4:∀ p∈opn,0<=p.1/\p.1<sec.length/\Sec p.2) (h1:sec.length<=4096) (h2:opn.length<=100000)
  (hcut:∀(j:Nat) (w1:Wd),j<opn.length->Bw w w1->Wc 177 #[.int .i64 (j:Int),.pointer (some ⟨bp,0,none⟩)] w1 λe w'=>e = .returned (.int .i64 (cut j))/\w'=w1):
  Wc 176 #[.slice As sec.length cs,.slice Ao opn.length co,.func (.func 177) #[] #[.pointer (some ⟨bp,0,none⟩)]] w λe w'=>∃ v,e = .returned v/\w'.ownsRow w.heap.size 243 64 v sec.length ((fW cut sec opn opn.length).flatMap u8s)/\Bw w w':=by
 have HO:=jz ho;have h0:=jz c5;have c9:=jz c4;have g1:=jz hcut;have g0:=jz (T9 As sec.length cs _ w hs (λu hu=>by
  obtain⟨s,_,hu⟩:=List.mem_flatMap.1 hu
  exact bS s u hu) (by omega))
 clear hs ho c5 c4 hcut;go_enter func176,ntmps176
 go_wp2_with (go_at_call 230;refine g0.mono ?_;rintro e w1 ⟨v1,rfl,x,f6⟩;obtain⟨Ar,cr,rfl,_,_⟩:=bO x;have g2:=jz x;have f9:=jz f6;clear x f6)
 go_loopw [14] (λi wr=>∃ j:Nat,j<=opn.length/\i = .int .i64 (j:Int)/\Hid (wr.ownsRow w.heap.size 243 64 (.slice Ar sec.length cr) sec.length ((fW cut sec opn j).flatMap u8s))/\Hid (Bw w wr)) (λi _=>opn.length-(intOf i).toNat)
 case atStart=>exact⟨0,j0 _,rfl,g2,f9⟩
 case round=>
  obtain⟨j,hj,rfl,HR,HB⟩:=hrel;have k0:=HB.size;rcases jo j opn.length with a8|k2
  ·obtain⟨b1,o1,rfl,d5⟩:=O0 (HO.below HB) (λp hp=>(c9 p hp).2.2) j a8;have hp:=c9.out _ (List.getElem_mem a8);have HTJ:Hid (fW cut sec opn (j+1)=(fW cut sec opn j).set opn[j].1.toNat (eP ((fW cut sec opn j).getD opn[j].1.toNat []) opn[j].2 (cut j))):=jz (by
    show(fW cut sec opn j).set (opn.getD j (0,[])).1.toNat _=_
    rw[show opn.getD j (0,[])=opn[j] by simp[jn,a8]])
   have c6:=jz (λw1 hb=>g1.out j w1 a8 hb);have d7:=oS cut sec opn j;have a5:=jz (rV cut sec opn h0 c9 j (by omega));obtain⟨c,hc⟩:=je (cut j);obtain⟨L,hL⟩:=je (fW cut sec opn j);obtain⟨⟨a,dat⟩,f8⟩:∃ p,p=opn[j]:=⟨_,rfl⟩;rw[<- f8] at d5 hp HTJ;rw[<- hc] at HTJ c6;rw[<- hL] at HTJ a5 d7 HR;clear f8 hc hL;obtain⟨k,rfl⟩:=Int.eq_ofNat_of_zero_le hp.1;have a7:k<L.length:=by have:=hp.2.1;simp only at this;omega
   have h6:(k:Int)<(sec.length:Int):=hp.2.1;have a4:Hid (Sec dat):=jz hp.2.2;have HTJ:Hid (fW cut sec opn (j+1)=L.set k (eP (L.getD k []) dat c)):=HTJ;clear hp;have g8:=jz d5;clear d5;have a6:=fO (p:=((k:Int),dat)) a4.out;have h5:Hid ((prog.info? 363).map (·.size)=some (wrC ((k:Int),dat)).length):=jz (by rw[a6];kernel_rfl);have d1:Hid ((prog.info? 363).map (·.size)=some (wrC ((k:Int),dat)).toArray.size/\(wrC (0,List.replicate 64 0)).toArray.size=(wrC ((k:Int),dat)).toArray.size/\(wrC ((k:Int),dat)).toArray.all (·.oneCell')=true):=jz ⟨by rw[js,a6];kernel_rfl,by rw[js,js,a6];rfl,all_oneCell_toArray (uK _)⟩;clear a6;have k3:(0:Int)<=j:=by omega
   have k4:(j:Int)<opn.length:=by omega
   have m1:(0:Int)<=k:=by omega
   go_upto_region 5 with (first
    | (refine ld 363 _ rfl rfl rfl g8 underlying363 rfl h5 ?_)
    | (refine al 363 _ rfl rfl PK ?_)
    | (refine bZ 363 (.tmp 9) (.tmp 18) rfl rfl (by rfl) (by rfl) d1.out.1 d1.out.2.1 d1.out.2.2 ?_;intro w2 hK f7 h8;have f1:=jz (show Blk w2 wr.heap.size 363 (wrC ((k:Int),dat)).toArray from hK);have e8:=jz f7;clear hK f7 h8))
   have h9:w2.cell? ⟨wr.heap.size,0,none⟩=some (.int .i64 (k:Int)):=f1.cell 0;go_wp2_with fail
   have f0:Hid (w2.rangeAt wr.heap.size 0 (wrC ((k:Int),dat))):=jz (by have h:=f1.range;rw[jt] at h;exact h);have g3:=jz (aK HR e8);have U:=jz (aA HB e8);obtain⟨J,rfl⟩:∃ J,Ar=some ⟨J,0,none⟩:=by
    rcases HR.out.2 with ⟨_,h⟩|⟨g,cp,k1,hv,_⟩
    ·omega
    ·injection hv with e1 _ _;exact⟨g,e1⟩
   have h3:=jz d7;have b7:Hid (w2.ownsRow w.heap.size 243 64 (.slice (some ⟨J,0,none⟩) L.length cr) L.length (L.flatMap u8s)):=jz (by have h:=g3.out;rw[<- show L.length=sec.length from d7] at h;exact h);have b0:Hid (L.getD k []=L[k]):=jz (by simp[jn,a7]);have d0:Hid (Sec L[k]):=jz (a5 _ (List.getElem_mem a7));have c2:Hid (∀ w3,Bw w2 w3->w3.rangeAt J (k*64) (u8s L[k])):=jz (λw3 hb=>by
    obtain⟨b,off,e,hr⟩:=OZ (Sn.own b7) a5 k a7
    injection e with e
    injection e with e1 e2
    rw[<- e1,<- e2,Nat.zero_add] at hr
    exact λj u hj=>j9 hb (hr j u hj))
   have f2:=jz (λw3=>PB L[k] dat c w3 d0 a4);have c3:Hid (Sec (eP L[k] dat c)):=jz (rR c d0 a4);have h4:Hid ((prog.info? 243).map (·.size)=some (u8s dat).length):=jz (by rw[aF a4.out];kernel_rfl);have f3:Hid ((prog.info? 243).map (·.size)=some (u8s L[k]).length):=jz (by rw[aF d0.out];kernel_rfl);have f5:Hid ((prog.info? 243).map (·.size)=some (u8s (eP L[k] dat c)).length):=jz (by rw[aF c3.out];kernel_rfl);have a9:Hid (∀ D,Bw w2 D->D.there J (k*64) (u8s (eP L[k] dat c)).length/\(D.setCells J (k*64) (u8s (eP L[k] dat c))).ownsRow w.heap.size 243 64 (.slice (some ⟨J,0,none⟩) sec.length cr) sec.length ((fW cut sec opn (j+1)).flatMap u8s)/\Bw w (D.setCells J (k*64) (u8s (eP L[k] dat c)))/\SB7 wr.heap.size ((k:Int),dat) (D.setCells J (k*64) (u8s (eP L[k] dat c)))):=jz (λD hb=>by
    obtain⟨q1,q2,q3⟩:=J8 u8s Sec 64 (λr h=>aF h) (aK b7 hb) a5 k a7 (eP L[k] dat c) c3.out
    rw[List.length_set,<- b0.out,<- HTJ.out] at q1
    rw[show L.length=sec.length from h3.out,b0.out] at q1
    refine⟨q2,q1,(aA U hb).trans (aU q3 _ _ _).1,?_⟩
    have h7:J≠wr.heap.size:=λe=>by have:=(HR.lt J rfl).2;omega
    exact λi u hi=>(World.cell?_of_block (a:=⟨wr.heap.size,0+i,none⟩) (bE (λe=>h7 e.symm) _ _ _)).trans (j9 hb (f0 i u hi)))
   have c7:Hid (∀ D,SB7 wr.heap.size ((k:Int),dat) D->D.cell? ⟨wr.heap.size,0,none⟩=some (.int .i64 (k:Int))/\D.rangeAt wr.heap.size 1 (u8s dat)):=jz (λD h=>⟨h 0 _ rfl,λi u hi=>by have:=h (i+1) u hi;rw[show 1+i=0+(i+1) by omega];exact this⟩);have K:Hid (SB7 wr.heap.size ((k:Int),dat) w2.drew):=jz f0.out;have V:Hid (∀ D w5,SB7 wr.heap.size ((k:Int),dat) D->Bw D w5->SB7 wr.heap.size ((k:Int),dat) w5):=jz (λD w5 h hb i u hi=>j9 hb (h i u hi));have O:Hid (Bw w2 w2.drew):=jz (ji _ _).drew;have m2:(k:Int)<(sec.length:Int):=h6;refine bQ 16 (SB7 wr.heap.size ((k:Int),dat)) (by kernel_rfl) (by kernel_rfl) (K) (λhH=>?_);refine jM 0 (.tmp 7) (some 29) (.slice (some ⟨J,0,none⟩) sec.length cr) hH ?_;simp only[jq];refine jT 1 (.fieldAddr 363 (.tmp 9) 0) (some 30) (.pointer (some ⟨wr.heap.size,0,none⟩)) hH ?_;simp only[jq];refine jT 2 (.load 3 (.tmp 30)) (some 31) (.int .i64 (k:Int)) (hy:=λo ho wX hX=>by have d2:=(c7.out wX hX).1;unfold execOp;simp only[ho];go_simp) hH ?_;simp only[jq];refine jM 3 (.tmp 7) (some 32) (.slice (some ⟨J,0,none⟩) sec.length cr) hH ?_;simp only[jq];refine jT 4 (.fieldAddr 363 (.tmp 9) 0) (some 33) (.pointer (some ⟨wr.heap.size,0,none⟩)) hH ?_;simp only[jq];refine jT 5 (.load 3 (.tmp 33)) (some 34) (.int .i64 (k:Int)) (hy:=λo ho wX hX=>by have d2:=(c7.out wX hX).1;unfold execOp;simp only[ho];go_simp) hH ?_;simp only[jq];refine jT 6 (.indexAddr 46 (.tmp 32) (.tmp 34)) (some 35) (.pointer (some ⟨J,k*64,none⟩)) hH ?_;simp only[jq];refine jT 8 (.fieldAddr 363 (.tmp 9) 1) (some 37) (.pointer (some ⟨wr.heap.size,1,none⟩)) hH ?_;simp only[jq];refine jL 9 243 (.tmp 37) (some 38) (cs:=u8s dat) (λ_ hX=>(c7 _ hX).2) underlying243 rfl h4 hH ?_;simp only[jq];refine jM 10 (.tmp 2) (some 39) (.func (.func 177) #[] #[.pointer (some ⟨bp,0,none⟩)]) hH ?_;simp only[jq];refine jM 11 (.tmp 8) (some 40) (.int .i64 (j:Int)) hH ?_;simp only[jq];refine jW [7,12] ?_;refine PJ 7 243 (.tmp 35) (some 36) (cs:=u8s L[k]) (by kernel_rfl) (by kernel_rfl) (by exact rfl) (c2 _ O) underlying243 rfl f3 K ?_ (jC 12 (.call { callee:=.value (.tmp 39),args:=#[.tmp 40],argTypes:=#[3] }) (some 41) 177 #[.int .i64 (j:Int),.pointer (some ⟨bp,0,none⟩)] ?_  jN)
   ·simp only[jq];refine jW [12] ?_;refine jC 12 (.call { callee:=.value (.tmp 39),args:=#[.tmp 40],argTypes:=#[3] }) (some 41) 177 #[.int .i64 (j:Int),.pointer (some ⟨bp,0,none⟩)] ?_  jN;refine(c6 _ (aA U O)).mono ?_;rintro e wM ⟨rfl,e0⟩;rw[e0];refine⟨_,rfl,K,λ_=>?_⟩;simp only[jq];refine jW [13] ?_;refine jC 13 (.call { callee:=.value (.func 231),args:=#[.tmp 36,.tmp 38,.tmp 41],argTypes:=#[243,243,3] }) (some 42) 231 #[.agg (u8s L[k]).toArray,.agg (u8s dat).toArray,.int .i64 c] ?_ jN;refine(f2 _).mono ?_;rintro e D ⟨rfl,a1⟩;obtain⟨a3,x,I,a2⟩:=a9.out D (aA O a1);refine⟨_,rfl,V _ _ K a1,λa0=>?_⟩;simp only[jq];refine jT 14 (.indexAddr 46 (.tmp 29) (.tmp 31)) (some 43) (.pointer (some ⟨J,k*64,none⟩)) a0 ?_;simp only[jq];refine jW [15] ?_;refine jR 15 243 (.tmp 43) (.tmp 42) none (cs:=u8s (eP L[k] dat c)) a3 f5 (bS _) a2 ?_ jN;simp only[jq];refine wpAnyH_done (by kernel_rfl) ?_ _;have Z:=jz x;have R:=jz I;clear a3 x I a2 a0;go_wp2_with fail
    exact⟨⟨j+1,by omega,by go_num,Z,R⟩,by simp[intOf];omega⟩
   ·refine(c6 _ (aA U O)).mono ?_;rintro e wM ⟨rfl,e0⟩;rw[e0];refine⟨_,rfl,K,λ_=>?_⟩;simp only[jq];refine jW [7] ?_;refine PJ 7 243 (.tmp 35) (some 36) (cs:=u8s L[k]) (by kernel_rfl) (by kernel_rfl) (by exact rfl) (c2 _ O) underlying243 rfl f3 K ?_ jN;simp only[jq];refine jW [13] ?_;refine jC 13 (.call { callee:=.value (.func 231),args:=#[.tmp 36,.tmp 38,.tmp 41],argTypes:=#[243,243,3] }) (some 42) 231 #[.agg (u8s L[k]).toArray,.agg (u8s dat).toArray,.int .i64 c] ?_ jN;refine(f2 _).mono ?_;rintro e D ⟨rfl,a1⟩;obtain⟨a3,x,I,a2⟩:=a9.out D (aA O a1);refine⟨_,rfl,V _ _ K a1,λa0=>?_⟩;simp only[jq];refine jT 14 (.indexAddr 46 (.tmp 29) (.tmp 31)) (some 43) (.pointer (some ⟨J,k*64,none⟩)) a0 ?_;simp only[jq];refine jW [15] ?_;refine jR 15 243 (.tmp 43) (.tmp 42) none (cs:=u8s (eP L[k] dat c)) a3 f5 (bS _) a2 ?_ jN;simp only[jq];refine wpAnyH_done (by kernel_rfl) ?_ _;have Z:=jz x;have R:=jz I;clear a3 x I a2 a0;go_wp2_with fail
    exact⟨⟨j+1,by omega,by go_num,Z,R⟩,by simp[intOf];omega⟩
  ·obtain rfl:j=opn.length:=by omega
   have t1:decide ((opn.length:Int)<(opn.length:Int))=false:=by simp
   go_wp2_with fail
   go_ret;exact⟨_,rfl,HR,HB⟩
end
section
open Go.RowKit
attribute [local irreducible] wpQuiet wpAnyH
def lQ(sec:List Wl)(opn:List (Int×Wl))(cl:Wl):List Wl:=fW (λj=>cl.getD j 0) sec opn opn.length
def iX(d:DiskD)(cl:Wl):DiskD:={ d with sec:=lQ d.sec d.opn cl,opn:=[],down:=true }
def svM(m:DiskM)(v:Value):DiskM:={ m with sv:=v }
def GX(d:DiskD)(s:List Wl):DiskD:={ d with sec:=s }
theorem kJ(sec:List Wl)(opn:List (Int×Wl))(cl:Wl):(lQ sec opn cl).length=sec.length:=oS _ _ _ _
theorem GY{sec:List Wl}{opn:List (Int×Wl)}(cl:Wl)(x:∀ s∈sec,Sec s)(j:∀ p∈opn,0<=p.1/\p.1<sec.length/\Sec p.2):∀ s∈lQ sec opn cl,Sec s:=rV _ _ _ x j _ (ja _)
attribute [irreducible] lQ
theorem MB(sec:List Wl)(opn:List (Int×Wl))(cl:Wl)(As Ao Ac:Option Addr)(cs co O:Nat)(w:Wd)
  (hs:Sn w 64 (.slice As sec.length cs) sec.length (sec.flatMap u8s)) (Z:Sn w 65 (.slice Ao opn.length co) opn.length (opn.flatMap wrC)) (V:Sn w 1 (.slice Ac cl.length O) cl.length (lV cl))
  (J:∀ s∈sec,Sec s) (D:∀ p∈opn,0<=p.1/\p.1<sec.length/\Sec p.2) (h1:sec.length<=4096) (h2:opn.length<=100000) (h3:cl.length<=1000000):
  Wc 115 #[.slice As sec.length cs,.slice Ao opn.length co,.slice Ac cl.length O] w λe w'=>∃ v,e = .returned v/\w'.ownsRow w.heap.size 243 64 v sec.length ((lQ sec opn cl).flatMap u8s)/\Bw w w':=by
 have hb:Bw w (w.alloc (.cells #[.slice Ac cl.length O] 69)):=(ji _ _).alloc (ja _) _;have U:=Blk.new w 69 #[.slice Ac cl.length O];have R:=jz (PM sec opn As Ao cs co w.heap.size (λj=>cl.getD j 0) _ (hs.below hb) (Z.below hb) J D h1 h2 (λj w1 hj x=>GW j w.heap.size cl Ac O w1 ((U.keep x).cell 0) ((V.below hb).below x) (by omega) h3));have K:=jz hb;have HE:Hid (lQ sec opn cl=fW (λj=>cl.getD j 0) sec opn opn.length):=jz (by unfold lQ;rfl);clear hs Z V J D hb U;have a0:∀(fn:Fn) (first cap:Wa) (w:Wd),(Instr.makeFunc fn first cap).run prog w = .ok (.func fn first cap) w:=λ_ _ _ _=>rfl
 go_enter func115,ntmps115
 go_wp2_with (go_at_call 176;refine R.mono ?_;rintro e w1 ⟨v,rfl,I,x⟩;have HO:=jz I;have HB:=jz x;clear I x)
 go_ret;exact⟨_,rfl,by rw[HE.out];exact bI HO K.size,K.trans (HB.mono K.size)⟩
theorem D0{m:DiskM}{v:Value}{w:Wd}(x:∀ b,v.ownBlock=some b->w.heap.size<=b):∀ k∈aZ (svM m v),k∈aZ m\/w.heap.size<=k:=by
 intro k j;simp only[aZ,svM,ju,Option.mem_toList] at j ⊢;rcases j with h|h|h
 ·exact .inl (.inl h)
 ·exact .inr (x k h)
 ·exact .inl (.inr (.inr h))
theorem ZK{m:DiskM}{v:Value}{B:Nat}(h:(aZ m).Nodup)(J:∀ k∈aZ m,k<B)(R:∀ b,v.ownBlock=some b->B<=b):(aZ (svM m v)).Nodup:=by
 have K:aZ m=[m.g,m.bl,m.bf,m.bc]++(m.sv.ownBlock.toList++m.ov.ownBlock.toList):=rfl;have j:([m.g,m.bl,m.bf,m.bc]++m.ov.ownBlock.toList).Nodup:=by
  refine List.Nodup.sublist ?_ h;rw[K];exact List.Sublist.append (List.Sublist.refl _) (List.sublist_append_right _ _)
 show([m.g,m.bl,m.bf,m.bc]++(v.ownBlock.toList++m.ov.ownBlock.toList)).Nodup;cases hvb:v.ownBlock with
 | none=>simpa using j
 | some q=>
  have U:=R q hvb;have I:∀ x∈[m.g,m.bl,m.bf,m.bc]++m.ov.ownBlock.toList,x<B:=λx D=>J x (by
   rw[K]
   rw[ju] at D ⊢
   rcases D with D|D
   ·exact .inl D
   ·exact .inr (List.mem_append_right _ D))
  have O:List.Perm ([m.g,m.bl,m.bf,m.bc]++((some q).toList++m.ov.ownBlock.toList)) (q :: ([m.g,m.bl,m.bf,m.bc]++m.ov.ownBlock.toList)):=by
   show List.Perm ([m.g,m.bl,m.bf,m.bc]++(q :: m.ov.ownBlock.toList)) _;exact List.perm_middle
  rw[O.nodup_iff,List.nodup_cons];exact⟨λD=>by have:=I q D;omega,j⟩
theorem DK.withSec{w D:Wd}{m:DiskM}{d:DiskD}(h:DK w m d){v:Value}{s:List Wl}(hb:Bw w D)(J:D.ownsRow w.heap.size 243 64 v s.length (s.flatMap u8s))(U:s.length=d.sec.length)(hs:∀ x∈s,Sec x):
  DK (D.setCell ⟨m.g,0,none⟩ v) (svM m v) (GX d s)/\DT w m (D.setCell ⟨m.g,0,none⟩ v) (svM m v):=by
 have K:=iJ h.nd;have I:∀ b,v.ownBlock=some b->w.heap.size<=b:=λb hb=>(J.lt b hb).1
 have b5:∀ k,k≠m.g->(D.setCell ⟨m.g,0,none⟩ v).heap[k]? = D.heap[k]?:=λk j=>Below.heap_setCell D ⟨m.g,0,none⟩ v k j
 have O:∀ k,k<w.heap.size->k≠m.g->(D.setCell ⟨m.g,0,none⟩ v).heap[k]? = w.heap[k]?:=λk j hg=>(b5 k hg).trans (hb.block k j)
 have a0:(D.setCell ⟨m.g,0,none⟩ v).heap.size=D.heap.size:=by simp
 have V:=hb.size;refine⟨h.re rfl [m.g] (λk j=>by rw[List.mem_singleton] at j;rw[j];exact iW m) (λk j K=>O k j (by simpa using K)) (by omega) (Blk.set_ ((hb.block m.g h.blk.lt).trans h.blk) 0 v) ?_ (aQ h.opn λb R=>O b (h.opn.lt b R).2 (K.2.2.2.2.2.2.2.1 b R).1) (h.last.of_block (O _ h.last.lt (λe=>K.1 e.symm))) (h.fl.of_block (O _ h.fl.lt (λe=>K.2.1 e.symm))) (h.cr.of_block (O _ h.cr.lt (λe=>K.2.2.1 e.symm))) (ZK h.nd h.foot_lt I) (D0 I) h.flv (λk j=>.inr ⟨rfl,rfl⟩) ⟨hs,λp hp=>?_,?_,h.ok.lo,h.ok.st,h.ok.rm,h.ok.cl⟩,⟨rfl,⟨hb.os,hb.tape,hb.output,by omega,λk j Z=>O k j (λe=>Z (by rw[e];exact iW m))⟩,D0 I,λ_ _ h=>.inl h⟩⟩
 ·exact aQ (bI J (j0 _)) (λb R=>b5 b (λe=>by have h1:=I b R;have h2:=h.blk.lt;omega))
 ·have h1:=h.ok.opn p hp;exact⟨h1.1,by show p.1<(s.length:Int);rw[U];exact h1.2.1,h1.2.2⟩
 ·show s.length<=4096;rw[U];exact h.ok.few
theorem pT(cl:Wl)(Ac:Option Addr)(cc:Nat)(w:Wd)(m:DiskM)(d:DiskD)(h:DK w m d)(hc:Sn w 1 (.slice Ac cl.length cc) cl.length (lV cl))(d0:cl.length<=1000000):
  Wc 75 #[.pointer (some ⟨m.g,0,none⟩),.slice Ac cl.length cc] w λe w'=>e = .returned (.tuple #[])/\∃ m',DK w' m' (iX d cl)/\DT w m w' m':=by
 have H:=jz h;have d2:=h.blk.lt;obtain⟨As,cs,a3,_⟩:=Sn.own h.sec;obtain⟨Ao,co,a1,_⟩:=Sn.own h.opn;have a2:=Sn.own h.sec;have a0:=Sn.own h.opn;have c3:=h.sec;rw[a3] at a2 c3;rw[a1] at a0;have c7:=jz (fun(w1:Wd) (hb:Bw w w1)=>MB d.sec d.opn cl As Ao Ac cs co cc w1 (a2.below hb) (a0.below hb) (hc.below hb) h.ok.sec h.ok.opn h.ok.few (jm h.ok.lo h.ok.rm) d0);have J:=jz (kJ d.sec d.opn cl);have a9:=jz (GY cl h.ok.sec h.ok.opn);have HC:Hid (∀ W:Wd,W.heap[m.g]? = w.heap[m.g]?->W.cell? ⟨m.g,0,none⟩=some (.slice As d.sec.length cs)/\W.cell? ⟨m.g,1,none⟩=some (.slice Ao d.opn.length co)/\W.frozen? ⟨m.g,0,none⟩=false):=jz (λW hW=>by
  have hB:Blk W m.g 151 (eG m d):=hW.trans h.blk
  exact⟨by rw[<- a3];exact hB.cell 0,by rw[<- a1];exact hB.cell 1,hB.frozen 0⟩)
 clear a2 a0 c3 h hc a3 a1;have a8:Hid (w.drew.cell? ⟨m.g,1,none⟩=some (.slice Ao d.opn.length co)):=jz (HC w.drew rfl).2.1;have c6:Hid (w.drew.cell? ⟨m.g,0,none⟩=some (.slice As d.sec.length cs)):=jz (HC w.drew rfl).1;go_enter func75,ntmps75
 go_wp2_with fail
 refine bQ 14 (λwz=>wz.cell? ⟨m.g,1,none⟩=some (.slice Ao d.opn.length co)) (by kernel_rfl) (by kernel_rfl) (a8) (λD=>?_);refine jM 0 (.tmp 0) (some 6) (.pointer (some ⟨m.g,0,none⟩)) D ?_;simp only[jq];refine jM 1 (.tmp 0) (some 7) (.pointer (some ⟨m.g,0,none⟩)) D ?_;simp only[jq];refine jT 2 (.nilCheck (.tmp 7)) (some 8) (.pointer (some ⟨m.g,0,none⟩)) D ?_;simp only[jq];refine jT 3 (.fieldAddr 151 (.tmp 8) 0) (some 9) (.pointer (some ⟨m.g,0,none⟩)) D ?_;simp only[jq];refine jM 5 (.tmp 0) (some 11) (.pointer (some ⟨m.g,0,none⟩)) D ?_;simp only[jq];refine jT 6 (.nilCheck (.tmp 11)) (some 12) (.pointer (some ⟨m.g,0,none⟩)) D ?_;simp only[jq];refine jT 7 (.fieldAddr 151 (.tmp 12) 1) (some 13) (.pointer (some ⟨m.g,1,none⟩)) D ?_;simp only[jq];refine jT 8 (.load 149 (.tmp 13)) (some 14) (.slice Ao d.opn.length co) (hy:=λo ho wX hX=>by have Z:=hX;unfold execOp;simp only[ho];go_simp) D ?_;simp only[jq];refine jM 9 (.tmp 1) (some 15) (.slice Ac cl.length cc) D ?_;simp only[jq];refine jW [4] ?_;refine jS 4 (.load 46 (.tmp 9)) (some 10) (.slice As d.sec.length cs) w.drew (hrun:=λo ho=>by have Z:=c6.out;unfold execOp;simp only[ho];go_simp) a8 ?_ jN;simp only[jq];refine jW [10] ?_;refine jC 10 (.call { callee:=.value (.func 115),args:=#[.tmp 10,.tmp 14,.tmp 15],argTypes:=#[46,149,69] }) (some 16) 115 #[.slice As d.sec.length cs,.slice Ao d.opn.length co,.slice Ac cl.length cc] ?_ jN;refine(c7 _ (ji _ _).drew).mono ?_;rintro e w4 ⟨v4,rfl,j,b0⟩;have R:Bw w w4:=(ji w.heap.size w).drew.trans b0;obtain⟨A4,c4,d5,_,_⟩:=bO j;subst d5;have j:w4.ownsRow w.heap.size 243 64 (.slice A4 d.sec.length c4) (lQ d.sec d.opn cl).length ((lQ d.sec d.opn cl).flatMap u8s):=by rw[J.out];exact j
 obtain⟨b1,b7⟩:=H.out.withSec R j J a9.out;obtain⟨c9,U,d1⟩:=HC.out w4 (R.block m.g d2);refine⟨_,rfl,U,λO=>?_⟩;simp only[jq];refine jT 11 (.nilCheck (.tmp 6)) (some 17) (.pointer (some ⟨m.g,0,none⟩)) O ?_;simp only[jq];refine jT 12 (.fieldAddr 151 (.tmp 17) 0) (some 18) (.pointer (some ⟨m.g,0,none⟩)) O ?_;simp only[jq];refine jW [13] ?_;refine BE 13 (Op.store 46 (Operand.tmp 18) (Operand.tmp 16)) none (w4.setCell ⟨m.g,0,none⟩ (.slice A4 d.sec.length c4)) (by kernel_rfl) (by kernel_rfl) (λo ho=>by unfold execOp;simp only[ho];go_simp) (by simp[go_sem,U,World.cell?_setCell_other]) ?_ jN;simp only[jq];refine wpAnyH_done (by kernel_rfl) ?_ _;have a5:=jz b1;have a6:=jz b7;clear j b0 R b1 b7 c9 U d1 O;obtain⟨w5,c5⟩:=je (w4.setCell ⟨m.g,0,none⟩ (.slice A4 d.sec.length c4));rw[<- c5] at a5 a6 ⊢;clear c5;have a4:=jz (vL w5 _ _ a5);go_wp2_with (go_at_call 116;refine a4.mono ?_;rintro e w6 ⟨rfl,x,K⟩;have I:=jz (x.down true);have a7:=jz K;have V:=x.blk.cell 3;have c2:=x.blk.frozen 3;simp only[eG,jf,jh,jg] at V;have V:w6.cell? ⟨m.g,3,none⟩=some (.bool d.down):=V;have c2:w6.frozen? ⟨m.g,3,none⟩=false:=c2;clear x K)
 exact bodyPost_end (results_none rfl _ _ _) rfl ⟨rfl,_,I.out.1,a6.trans (a7.trans I.out.2)⟩
def kK(d:DiskD)(a:Int)(s:Wl):DiskD:=if kH d a then DS d a s else d
def bJ(d:DiskD)(a:Int)(s:Wl):DiskD:=
 if d.down then d else if jF d=2 then iX (kK (aX d) a s) (eO d) else if jF d=1 then aX d else kK (aX d) a s
def gZ(d:DiskD)(a:Int):Value:=
 if d.down then lH 12 else if jF d=2 then lH 12 else if jF d=1 then lH 11 else if kH d a then .nilIface else vD 15 a
theorem vQ(d:DiskD):jF d=2\/jF d=1\/jF d=0:=by
 unfold jF;cases (d.cr ((d.steps+1:Nat):Int)).isSome <;> cases d.fl ((d.steps+1:Nat):Int) <;> simp
theorem jH(d:DiskD)(a:Int):kH (aX d) a=kH d a:=rfl
theorem GZ(d:DiskD)(a:Int)(s:Wl):(kK d a s).room<=d.room+1:=by unfold kK;split <;> simp[DS]
theorem zG{d:DiskD}(h:DOk d):(eO d).length<=1000000:=by
 unfold eO;cases hc:d.cr ((d.steps+1:Nat):Int) with
 | none=>simp
 | some cs=>exact h.cl _ cs hc
theorem DT.off{w w':Wd}{m m':DiskM}(h:DT w m w' m'){b:Nat}(hb:b<w.heap.size)(j:b ∉ aZ m):w'.heap[b]? = w.heap[b]?:=h.fo.block b hb j
theorem DK.notFoot{w:Wd}{m:DiskM}{d:DiskD}(h:DK w m d){b:Nat}(hb:w.heap.size<=b):b ∉ aZ m:=λj=>by have:=h.foot_lt b j;omega
theorem pU(a:Int)(s:Wl)(w:Wd)(m:DiskM)(d:DiskD)(h:DK w m d)(ha:aE a)(hs:Sec s)(hr:d.room+2<=100000):
  Wc 264 #[.pointer (some ⟨m.g,0,none⟩),.int .i64 a,.agg (u8s s).toArray] w λe w'=>e = .returned (gZ d a)/\∃ m',DK w' m' (bJ d a s)/\DT w m w' m':=by
 have d1:=h.blk.lt;have H:=jz h;have U:Bw w (w.alloc (.cells (u8s s).toArray 243)):=(ji _ _).alloc (ja _) _;have a2:=jz U;have a7:(w.alloc (.cells (u8s s).toArray 243)).cell? ⟨m.g,3,none⟩=some (.bool d.down):=(h.keep U).blk.cell 3;have d5:=h.ok.st;have a5:=jz (h.keep U);have a3:Hid (Blk (w.alloc (.cells (u8s s).toArray 243)) w.heap.size 243 (u8s s).toArray):=jz (Blk.new w _ _);have c7:=jz hs;have c3:=jz ha;have a0:Hid ((prog.info? 243).map (·.size)=some (u8s s).length):=jz (by rw[aF hs];kernel_rfl);clear h U hs ha;cases hd:d.down with
 | true=>
  rw[hd] at a7;have x:Hid (gZ d a=lH 12/\bJ d a s=d):=jz (by unfold gZ bJ;rw[hd];exact⟨rfl,rfl⟩);clear hd;go_enter func264,ntmps264
  go_wp2_with fail
  go_ret;exact⟨by rw[x.out.1];rfl,m,by rw[x.out.2];exact a5,DT.of_below a2⟩
 | false=>
  rw[hd] at a7;obtain⟨w0,b1⟩:=je (w.alloc (.cells (u8s s).toArray 243));have d0:Hid (w.alloc (.cells (u8s s).toArray 243)=w0):=jz b1.symm;have V:=jz (zB _ m d a5 (by omega));have c6:Hid (w.heap.size ∉ aZ m):=jz (H.out.notFoot (ja _));have b0:w.heap.size<(w.alloc (.cells (u8s s).toArray 243)).heap.size:=by simp
  have c9:=jz b0;clear b0;have a4:=jz (zG H.out.ok);clear b1;have j:Hid (Wc 260 #[.pointer (some ⟨m.g,0,none⟩)] (w.alloc (.cells (u8s s).toArray 243)) λe w'=>∃ A c,e = .returned (.tuple #[.int .i64 (jF d),.slice A (eO d).length c])/\Sn w' 1 (.slice A (eO d).length c) (eO d).length (lV (eO d))/\(∀ b,(Value.slice A (eO d).length c).ownBlock=some b->b ∉ aZ m/\b<w'.heap.size)/\DK w' (gQ m d) (aX d)/\DT w m w' (gQ m d)/\Blk w' w.heap.size 243 (u8s s).toArray):=jz (V.mono (by
   rintro e w' ⟨v,rfl,h1,O,I,D⟩
   obtain⟨A,c,rfl,_⟩:=id h1
   exact⟨A,c,rfl,h1,O,I,(DT.of_below a2).trans D,(D.off c9 c6).trans a3⟩))
  clear V d0;have d2:(aX d).room<=d.room+1:=by show max d.room (d.steps+1)<=d.room+1;omega
  have HADD:=jz (fun(w1:Wd) (hk:DK w1 (gQ m d) (aX d))=>O9 a s w1 (gQ m d) (aX d) hk c3 c7 (by omega));rw[jH] at HADD;rcases vQ d with J|J|J
  ·have x:Hid (gZ d a=lH 12/\bJ d a s=iX (kK (aX d) a s) (eO d)):=jz (by unfold gZ bJ;rw[hd,J];exact⟨rfl,rfl⟩);rw[J] at j;have a1:Hid ((if kH d a then DS (aX d) a s else aX d)=kK (aX d) a s):=jz (by unfold kK;rw[jH]);rw[a1.out] at HADD;clear hd J;obtain⟨cl,a8⟩:=je (eO d);rw[<- a8] at j x a4;clear a8 a1;go_enter func264,ntmps264
   go_wp2_with (first
    | (go_at_call 260;refine j.mono ?_;rintro e w1 ⟨A,c,rfl,h1,O,I,D,R⟩;have H1:=jz h1;have H2:=jz O;have H3:=jz I;have Z:=jz D;have K:Hid (w1.rangeAt w.heap.size 0 (u8s s)):=jz (by have h:=R.range;rw[jt] at h;exact h);clear h1 O I D R)
    | (refine ld 243 _ rfl rfl rfl K underlying243 rfl a0 ?_)
    | (go_at_call 312;refine(HADD w1 H3).mono ?_;rintro e w2 ⟨rfl,m2,h6,h7⟩;have H6:=jz h6;have H7:=jz h7;have H8:=jz (h7.fo.sn H1 (λb hb=>(H2 b hb).1));have a9:m2.g=m.g:=h7.g;have c5:=jz a9;clear h6 h7 a9)
    | (go_at_call 75;rw[<- c5.out];refine(pT cl A c w2 m2 _ H6 H8 a4).mono ?_;rintro e w3 ⟨rfl,m3,h9,a6⟩;have H9:=jz h9;have c2:=jz a6;clear h9 a6))
   go_ret;exact⟨by rw[x.out.1];rfl,m3,by rw[x.out.2];exact H9,Z.out.trans (H7.out.trans c2)⟩
  ·have x:Hid (gZ d a=lH 11/\bJ d a s=aX d):=jz (by unfold gZ bJ;rw[hd,J];exact⟨rfl,rfl⟩);rw[J] at j;clear hd J;go_enter func264,ntmps264
   go_wp2_with (go_at_call 260;refine j.mono ?_;rintro e w1 ⟨A,c,rfl,h1,O,I,D,R⟩;have H3:=jz I;have Z:=jz D;clear h1 O I D R)
   go_ret;exact⟨by rw[x.out.1];rfl,_,by rw[x.out.2];exact H3,Z⟩
  ·rw[J] at j;have c4:=jz (λw1=>sR a w1);cases hh:kH d a with
   | true=>
    have x:Hid (gZ d a = .nilIface/\bJ d a s=DS (aX d) a s):=jz (by unfold gZ bJ kK;rw[hd,J,jH,hh];exact⟨rfl,rfl⟩);rw[hh] at HADD;have HADD:Hid (∀ w1,DK w1 (gQ m d) (aX d)->Wc 312 #[.pointer (some ⟨(gQ m d).g,0,none⟩),.int .i64 a,.agg (u8s s).toArray] w1 λe w'=>e = .returned (.bool true)/\∃ m',DK w' m' (DS (aX d) a s)/\DT w1 (gQ m d) w' m'):=HADD;clear hd J hh;go_enter func264,ntmps264
    go_wp2_with (first
     | (go_at_call 260;refine j.mono ?_;rintro e w1 ⟨A,c,rfl,h1,O,I,D,R⟩;have H3:=jz I;have Z:=jz D;have K:Hid (w1.rangeAt w.heap.size 0 (u8s s)):=jz (by have h:=R.range;rw[jt] at h;exact h);clear h1 O I D R)
     | (refine ld 243 _ rfl rfl rfl K underlying243 rfl a0 ?_)
     | (go_at_call 312;refine(HADD w1 H3).mono ?_;rintro e w2 ⟨rfl,m2,h6,h7⟩;have H6:=jz h6;have H7:=jz h7;clear h6 h7))
    go_ret;exact⟨by rw[x.out.1];rfl,m2,by rw[x.out.2];exact H6,Z.out.trans H7⟩
   | false=>
    have x:Hid (gZ d a=vD 15 a/\bJ d a s=aX d):=jz (by unfold gZ bJ kK;rw[hd,J,jH,hh];exact⟨rfl,rfl⟩);rw[hh] at HADD;have HADD:Hid (∀ w1,DK w1 (gQ m d) (aX d)->Wc 312 #[.pointer (some ⟨(gQ m d).g,0,none⟩),.int .i64 a,.agg (u8s s).toArray] w1 λe w'=>e = .returned (.bool false)/\∃ m',DK w' m' (aX d)/\DT w1 (gQ m d) w' m'):=HADD;clear hd J hh;go_enter func264,ntmps264
    go_wp2_with (first
     | (go_at_call 260;refine j.mono ?_;rintro e w1 ⟨A,c,rfl,h1,O,I,D,R⟩;have H3:=jz I;have Z:=jz D;have K:Hid (w1.rangeAt w.heap.size 0 (u8s s)):=jz (by have h:=R.range;rw[jt] at h;exact h);clear h1 O I D R)
     | (refine ld 243 _ rfl rfl rfl K underlying243 rfl a0 ?_)
     | (go_at_call 312;refine(HADD w1 H3).mono ?_;rintro e w2 ⟨rfl,m2,h6,h7⟩;have H6:=jz h6;have H7:=jz h7;clear h6 h7)
     | (go_at_call 38;refine(c4 _).mono ?_;rintro e w3 ⟨rfl,b7⟩;rw[b7];clear b7))
    go_ret;exact⟨by rw[x.out.1];rfl,m2,by rw[x.out.2];exact H6,Z.out.trans H7⟩
def lZ(r:List Wl)(l:List (Int×Wl)):Nat->List Wl
 | 0=>r
 | j+1=>(lZ r l j).set (l.getD j (0,[])).1.toNat (l.getD j (0,[])).2
theorem oT(r:List Wl)(l:List (Int×Wl)):∀ j,(lZ r l j).length=r.length
 | 0=>rfl
 | j+1=>by unfold lZ;rw[List.length_set,oT r l j]
def PO(d:DiskD):DiskD:={ d with sec:=lZ d.sec d.opn d.opn.length,opn:=[] }
def cK(d:DiskD):DiskD:=if d.down then d else if jF d=2 then iX (aX d) (eO d) else if jF d=1 then aX d else PO (aX d)
def nS(d:DiskD):Value:=if d.down then lH 12 else if jF d=2 then lH 12 else if jF d=1 then lH 11 else .nilIface
def SBG(g gs n cs b:Nat)(p:Int×Wl)(w:Wd):Prop:=w.rangeAt b 0 (wrC p)/\w.cell? ⟨g,0,none⟩=some (.slice (some ⟨gs,0,none⟩) n cs)
theorem DK.setSec{w:Wd}{m:DiskM}{d:DiskD}(h:DK w m d){gs cap:Nat}(O:m.sv = .slice (some ⟨gs,0,none⟩) d.sec.length cap)(k:Nat)(R:k<d.sec.length)(s:Wl)(hs:Sec s):
  DK (w.setCells gs (k*64) (u8s s)) m (GX d (d.sec.set k s))/\DT w m (w.setCells gs (k*64) (u8s s)) m/\w.there gs (k*64) (u8s s).length:=by
 have K:=iJ h.nd;have j:m.sv.ownBlock=some gs:=by rw[O];rfl
 have hg:=K.2.2.2.2.2.2.1 gs j;have D:=h.sec;rw[O] at D;obtain⟨U,q2,_⟩:=J8 u8s Sec 64 (λr h=>aF h) D h.ok.sec k R s hs;rw[List.length_set] at U;have J:∀ b,b≠gs->(w.setCells gs (k*64) (u8s s)).heap[b]? = w.heap[b]?:=λb hb=>bE hb _ _ _
 have Z:=(aU (b:=gs) (B:=0) (j0 _) (u8s s) (k*64) w).2;have I:=(aU (b:=gs) (B:=0) (j0 _) (u8s s) (k*64) w).1;refine⟨h.re rfl [gs] (λb hb=>by rw[List.mem_singleton] at hb;rw[hb];exact qI j) (λb _ hb=>J b (by simpa using hb)) (by omega) ((J m.g (λe=>hg.1 e.symm)).trans h.blk) ?_ (aQ h.opn λb hx=>J b (λe=>K.2.2.2.2.2.2.2.2 gs j (e ▸ hx))) (h.last.of_block (J _ (λe=>hg.2.1 e.symm))) (h.fl.of_block (J _ (λe=>hg.2.2.1 e.symm))) (h.cr.of_block (J _ (λe=>hg.2.2.2 e.symm))) h.nd (λb hb=>.inl hb) h.flv (λk R=>.inr ⟨rfl,rfl⟩) ⟨λx hx=>?_,λp V=>?_,?_,h.ok.lo,h.ok.st,h.ok.rm,h.ok.cl⟩,⟨rfl,⟨I.os,I.tape,I.output,by omega,λb _ K=>J b (λe=>K (by rw[e];exact qI j))⟩,λb hb=>.inl hb,λ_ _ h=>.inl h⟩,q2⟩
 ·show(w.setCells gs (k*64) (u8s s)).ownsRow 0 _ 64 m.sv (d.sec.set k s).length ((d.sec.set k s).flatMap u8s);rw[O,List.length_set];exact U
 ·have hx:x∈d.sec.set k s:=hx;rcases List.mem_or_eq_of_mem_set hx with h1|h1
  ·exact h.ok.sec x h1
  ·rw[h1];exact hs
 ·have h1:=h.ok.opn p V;exact⟨h1.1,by show p.1<((d.sec.set k s).length:Int);rw[List.length_set];exact h1.2.1,h1.2.2⟩
 ·show(d.sec.set k s).length<=4096;rw[List.length_set];exact h.ok.few
theorem oU(w:Wd)(m:DiskM)(d:DiskD)(h:DK w m d)(hr:d.room+1<=100000):
  Wc 201 #[.pointer (some ⟨m.g,0,none⟩)] w λe w'=>e = .returned (nS d)/\∃ m',DK w' m' (cK d)/\DT w m w' m':=by
 have m9:=h.blk.lt;have H:=jz h;have c3:w.cell? ⟨m.g,3,none⟩=some (.bool d.down):=h.blk.cell 3;have q0:=h.ok.st;clear h;cases hd:d.down with
 | true=>
  rw[hd] at c3;have K:Hid (nS d=lH 12/\cK d=d):=jz (by unfold nS cK;rw[hd];exact⟨rfl,rfl⟩);clear hd;go_enter func201,ntmps201
  go_wp2_with fail
  go_ret;exact⟨by rw[K.out.1];rfl,m,by rw[K.out.2];exact H,DT.refl⟩
 | false=>
  rw[hd] at c3;have a4:=jz (zB _ m d H (by omega));have d7:=jz (zG H.out.ok);have x:Hid (Wc 260 #[.pointer (some ⟨m.g,0,none⟩)] w λe w'=>∃ A c,e = .returned (.tuple #[.int .i64 (jF d),.slice A (eO d).length c])/\Sn w' 1 (.slice A (eO d).length c) (eO d).length (lV (eO d))/\DK w' (gQ m d) (aX d)/\DT w m w' (gQ m d)):=jz (a4.mono (by
   rintro e w' ⟨v,rfl,h1,h2,U,V⟩
   obtain⟨A,c,rfl,_⟩:=id h1
   exact⟨A,c,rfl,h1,U,V⟩))
  clear a4;rcases vQ d with J|J|J
  ·have K:Hid (nS d=lH 12/\cK d=iX (aX d) (eO d)):=jz (by unfold nS cK;rw[hd,J];exact⟨rfl,rfl⟩);rw[J] at x;clear hd J;obtain⟨cl,f7⟩:=je (eO d);rw[<- f7] at x K d7;clear f7;go_enter func201,ntmps201
   go_wp2_with (first
    | (go_at_call 260;refine x.mono ?_;rintro e w1 ⟨A,c,rfl,h1,U,V⟩;have H1:=jz h1;have I:=jz U;have H4:=jz V;clear h1 U V)
    | (go_at_call 75;refine(pT cl A c w1 (gQ m d) _ I H1 d7).mono ?_;rintro e w3 ⟨rfl,m3,h9,f5⟩;have H9:=jz h9;have g3:=jz f5;clear h9 f5))
   go_ret;exact⟨by rw[K.out.1];rfl,m3,by rw[K.out.2];exact H9,H4.out.trans g3⟩
  ·have K:Hid (nS d=lH 11/\cK d=aX d):=jz (by unfold nS cK;rw[hd,J];exact⟨rfl,rfl⟩);rw[J] at x;clear hd J;go_enter func201,ntmps201
   go_wp2_with (go_at_call 260;refine x.mono ?_;rintro e w1 ⟨A,c,rfl,h1,U,V⟩;have I:=jz U;have H4:=jz V;clear h1 U V)
   go_ret;exact⟨by rw[K.out.1];rfl,_,by rw[K.out.2];exact I,H4⟩
  ·have K:Hid (nS d = .nilIface/\cK d=PO (aX d)):=jz (by unfold nS cK;rw[hd,J];exact⟨rfl,rfl⟩);rw[J] at x;clear hd J;go_enter func201,ntmps201
   go_upto_region 10 with (go_at_call 260;refine x.mono ?_;rintro e w1 ⟨A,c,rfl,h1,U,V⟩;have I:=jz U;have H4:=jz V;clear h1 U V)
   obtain⟨d1,f8⟩:=je (aX d);obtain⟨m1,c6⟩:=je (gQ m d);rw[<- f8] at I K;rw[<- c6] at I H4;have c7:m1.g=m.g:=by rw[c6];rfl
   have b7:=jz c7;obtain⟨Ao,co,c9,_⟩:=Sn.own I.out.opn;obtain⟨As,cs,g0,_⟩:=Sn.own I.out.sec;have h6:=jz c9;have O:=jz g0;have k3:w1.cell? ⟨m.g,1,none⟩=some (.slice Ao d1.opn.length co):=by rw[<- c9,<- c7];exact I.out.blk.cell 1
   have n4:d1.opn.length<=100000:=jm I.out.ok.lo I.out.ok.rm;have n6:d1.sec.length<=4096:=I.out.ok.few;have h0:Hid (DK w1 m1 (GX d1 (lZ d1.sec d1.opn 0))):=jz I.out;have f1:=jz I.out.ok.opn;clear f8 c6 c7 c9 g0 c3;go_wp2_with fail
   clear k3;go_loopw [36] (λi wr=>∃ j:Nat,j<=d1.opn.length/\i = .int .i64 (j:Int)/\Hid (DK wr m1 (GX d1 (lZ d1.sec d1.opn j)))/\Hid (DT w m wr m1)) (λi _=>d1.opn.length-(intOf i).toNat)
   case atStart=>exact⟨0,j0 _,rfl,h0,H4⟩
   case round=>
    obtain⟨j,hj,rfl,HR,HT⟩:=hrel;rcases jo j d1.opn.length with c5|m8
    ·have R:=Sn.own HR.opn;have R:Sn wr 65 m1.ov d1.opn.length (d1.opn.flatMap wrC):=R;rw[h6.out] at R;obtain⟨b1,o1,rfl,d0⟩:=O0 R (λp hp=>(f1 p hp).2.2) j c5;have hp:=f1.out _ (List.getElem_mem c5);have g2:=oT d1.sec d1.opn j;have HTJ:Hid (lZ d1.sec d1.opn (j+1)=(lZ d1.sec d1.opn j).set d1.opn[j].1.toNat d1.opn[j].2):=jz (by
      show(lZ d1.sec d1.opn j).set (d1.opn.getD j (0,[])).1.toNat _=_
      rw[show d1.opn.getD j (0,[])=d1.opn[j] by simp[jn,c5]])
     obtain⟨L,hL⟩:=je (lZ d1.sec d1.opn j);obtain⟨⟨a,dat⟩,f9⟩:∃ p,p=d1.opn[j]:=⟨_,rfl⟩;rw[<- f9] at d0 hp HTJ;rw[<- hL] at HTJ g2 HR;clear f9 hL R;obtain⟨k,rfl⟩:=Int.eq_ofNat_of_zero_le hp.1;have m2:k<L.length:=by have:=hp.2.1;simp only at this;omega
     have n3:(k:Int)<(d1.sec.length:Int):=hp.2.1;obtain⟨D,k4⟩:∃ D,As=some ⟨D,0,none⟩:=by
      rcases I.out.sec.2 with ⟨_,h⟩|⟨g,cp,m6,hv,_⟩
      ·omega
      ·rw[O.out] at hv;injection hv with e1 _ _;exact⟨g,e1⟩
     subst k4;have a9:Hid (Sec dat):=jz hp.2.2;have HTJ:Hid (lZ d1.sec d1.opn (j+1)=L.set k dat):=HTJ;clear hp;have h7:=jz d0;clear d0;have a0:=fO (p:=((k:Int),dat)) a9.out;have k2:Hid ((prog.info? 363).map (·.size)=some (wrC ((k:Int),dat)).length):=jz (by rw[a0];kernel_rfl);have c2:Hid ((prog.info? 363).map (·.size)=some (wrC ((k:Int),dat)).toArray.size/\(wrC (0,List.replicate 64 0)).toArray.size=(wrC ((k:Int),dat)).toArray.size/\(wrC ((k:Int),dat)).toArray.all (·.oneCell')=true):=jz ⟨by rw[js,a0];kernel_rfl,by rw[js,js,a0];rfl,all_oneCell_toArray (uK _)⟩;clear a0;have f3:Hid ((prog.info? 243).map (·.size)=some (u8s dat).length):=jz (by rw[aF a9.out];kernel_rfl);have n0:(0:Int)<=j:=by omega
     have n1:(j:Int)<d1.opn.length:=by omega
     have n2:(0:Int)<=k:=by omega
     go_upto_region 13 with (first
      | (refine ld 363 _ rfl rfl rfl h7 underlying363 rfl k2 ?_)
      | (refine al 363 _ rfl rfl PK ?_)
      | (refine bZ 363 (.tmp 6) (.tmp 39) rfl rfl (by rfl) (by rfl) c2.out.1 c2.out.2.1 c2.out.2.2 ?_;intro w2 hK f6 m5;have h5:=jz (show Blk w2 wr.heap.size 363 (wrC ((k:Int),dat)).toArray from hK);have d2:=jz f6;clear hK f6 m5))
     have d5:Hid (w2.rangeAt wr.heap.size 0 (wrC ((k:Int),dat))):=jz (by have h:=h5.range;rw[jt] at h;exact h);have a2:Hid (DK w2.drew m1 (GX d1 L)):=jz (HR.keep d2).drew;have g8:Hid (w2.drew.cell? ⟨m.g,0,none⟩=some (.slice (some ⟨D,0,none⟩) d1.sec.length cs)):=jz (by rw[<- O.out,<- b7.out];exact a2.blk.cell 0);have f2:Hid (m1.sv = .slice (some ⟨D,0,none⟩) (GX d1 L).sec.length cs):=jz (by rw[O.out];show _=Value.slice _ L.length cs;rw[g2]);obtain⟨a5,a7,g1⟩:=a2.setSec f2 k m2 dat a9.out;have a3:Hid (DK (w2.drew.setCells D (k*64) (u8s dat)) m1 (GX d1 (lZ d1.sec d1.opn (j+1)))):=jz (by rw[HTJ.out];exact a5);have e8:Hid (DT w m (w2.drew.setCells D (k*64) (u8s dat)) m1):=jz (HT.trans ((DT.of_below (d2.drew)).trans a7));have k1:=jz g1;have m4:D≠wr.heap.size:=λe=>by
      have h1:=HR.foot_lt D (qI (by rw[O.out];rfl));omega
     have h8:Hid (SBG m.g D d1.sec.length cs wr.heap.size ((k:Int),dat) w2.drew):=jz ⟨d5,g8⟩;have k0:Hid (SBG m.g D d1.sec.length cs wr.heap.size ((k:Int),dat) (w2.drew.setCells D (k*64) (u8s dat))):=jz ⟨λi u hi=>(World.cell?_of_block (a:=⟨wr.heap.size,0+i,none⟩) (bE (λe=>m4 e.symm) _ _ _)).trans (d5 i u hi),by rw[<- O.out,<- b7.out];exact a3.blk.cell 0⟩;have b0:Hid (∀ w4,SBG m.g D d1.sec.length cs wr.heap.size ((k:Int),dat) w4->w4.cell? ⟨wr.heap.size,0,none⟩=some (.int .i64 (k:Int))/\w4.rangeAt wr.heap.size 1 (u8s dat)/\w4.cell? ⟨m.g,0,none⟩=some (.slice (some ⟨D,0,none⟩) d1.sec.length cs)):=jz (λw4 h=>⟨h.1 0 _ rfl,λi u hi=>by have:=h.1 (i+1) u hi;rw[show 1+i=0+(i+1) by omega];exact this,h.2⟩);clear a5 a7 g1;refine bQ 10 (SBG m.g D d1.sec.length cs wr.heap.size ((k:Int),dat)) (by kernel_rfl) (by kernel_rfl) (h8) (λZ=>?_);refine jM 0 (.tmp 0) (some 40) (.pointer (some ⟨m.g,0,none⟩)) Z ?_;simp only[jq];refine jT 1 (.nilCheck (.tmp 40)) (some 41) (.pointer (some ⟨m.g,0,none⟩)) Z ?_;simp only[jq];refine jT 2 (.fieldAddr 151 (.tmp 41) 0) (some 42) (.pointer (some ⟨m.g,0,none⟩)) Z ?_;simp only[jq];refine jT 3 (.load 46 (.tmp 42)) (some 43) (.slice (some ⟨D,0,none⟩) d1.sec.length cs) (hy:=λo J wX hX=>by have c4:=(b0.out wX hX).2.2;unfold execOp;simp only[J];go_simp) Z ?_;simp only[jq];refine jT 4 (.fieldAddr 363 (.tmp 6) 0) (some 44) (.pointer (some ⟨wr.heap.size,0,none⟩)) Z ?_;simp only[jq];refine jT 5 (.load 3 (.tmp 44)) (some 45) (.int .i64 (k:Int)) (hy:=λo J wX hX=>by have c4:=(b0.out wX hX).1;unfold execOp;simp only[J];go_simp) Z ?_;simp only[jq];refine jT 6 (.fieldAddr 363 (.tmp 6) 1) (some 46) (.pointer (some ⟨wr.heap.size,1,none⟩)) Z ?_;simp only[jq];refine jL 7 243 (.tmp 46) (some 47) (cs:=u8s dat) (λ_ hX=>(b0 _ hX).2.1) underlying243 rfl f3 Z ?_;simp only[jq];refine jT 8 (.indexAddr 46 (.tmp 43) (.tmp 45)) (some 48) (.pointer (some ⟨D,k*64,none⟩)) Z ?_;simp only[jq];refine jW [9] ?_;refine jR 9 243 (.tmp 48) (.tmp 47) none (cs:=u8s dat) k1 f3 (bS _) k0 ?_ jN;simp only[jq];refine wpAnyH_done (by kernel_rfl) ?_ _;clear Z;go_wp2_with fail
     exact⟨⟨j+1,by omega,by go_num,a3,e8⟩,by simp[intOf];omega⟩
    ·obtain rfl:j=d1.opn.length:=by omega
     have t1:decide ((d1.opn.length:Int)<(d1.opn.length:Int))=false:=by simp
     have a1:=jz (vL wr m1 _ HR);rw[b7.out] at a1;go_wp2_with (go_at_call 116;refine a1.mono ?_;rintro e w6 ⟨rfl,a6,a8⟩;have e0:=jz a6;have f0:=jz a8;clear a6 a8)
     go_ret;exact⟨by rw[K.out.1];rfl,_,by rw[K.out.2];exact e0,HT.trans f0⟩
def planC(d:DiskD)(n:Int)(cl:Wl):DiskD:=if n<1 then d else { d with cr:=λk=>if k=(d.steps:Int)+n then some cl else d.cr k,room:=d.room+1 }
def planF(d:DiskD)(n:Int):DiskD:=if n<1 then d else { d with fl:=λk=>if k=(d.steps:Int)+n then true else d.fl k,room:=d.room+1 }
theorem DK.planC{w w':Wd}{m:DiskM}{d:DiskD}(h:DK w m d){K:Int}{cs:Wl}{v:Value}(hb:∀ k,k<w.heap.size->k≠m.bc->w'.heap[k]? = w.heap[k]?)(V:w.heap.size<=w'.heap.size)(hu:UM w' m.bc (d.room+1) (lY m.cv K v))(hv:Sn w' 1 v cs.length (lV cs))(Z:∀ b,v.ownBlock=some b->b ∉ aZ m/\b<w'.heap.size)(U:cs.length<=1000000)(hr:d.room+1<=100000):
  DK w' { m with cv:=lY m.cv K v } { d with cr:=λk=>if k=K then some cs else d.cr k,room:=d.room+1 }:=by
 have I:=iJ h.nd;refine⟨(hb m.g h.blk.lt I.2.2.1).trans h.blk,aQ h.sec λb D=>hb b (h.sec.lt b D).2 (I.2.2.2.2.2.2.1 b D).2.2.2,aQ h.opn λb D=>hb b (h.opn.lt b D).2 (I.2.2.2.2.2.2.2.1 b D).2.2.2,(h.last.of_block (hb _ h.last.lt I.2.2.2.2.1)).mono (Nat.le_succ _),(h.fl.of_block (hb _ h.fl.lt I.2.2.2.2.2.1)).mono (Nat.le_succ _),hu,h.nd,h.flv,λk hk=>?_,⟨h.ok.sec,h.ok.opn,h.ok.few,Nat.le_succ_of_le h.ok.lo,Nat.le_succ_of_le h.ok.st,hr,λk c e=>?_⟩⟩
 ·show match (if k=K then some cs else d.cr k) with|none=>lY m.cv K v k=none|some cs'=>∃ u,lY m.cv K v k=some u/\Sn w' 1 u cs'.length (lV cs')/\∀ b,u.ownBlock=some b->b ∉ aZ m/\b<w'.heap.size
  unfold lY;by_cases e:k=K
  ·rw[jP e,jP e];exact⟨v,rfl,hv,Z⟩
  ·rw[jQ e,jQ e];have J:=h.crv k hk;cases hc:d.cr k with
   | none=>rw[hc] at J;exact J
   | some c=>
    rw[hc] at J;obtain⟨u,h4,h5,O⟩:=J;refine⟨u,h4,?_,λb e=>⟨(O b e).1,jp (O b e).2 V⟩⟩;obtain⟨A,cap,rfl,R,U,D⟩:=h5;refine⟨A,cap,rfl,R,U,λhp=>?_⟩;obtain⟨b,off,rfl,x⟩:=D hp;exact⟨b,off,rfl,λj u hj=>(World.cell?_of_block (a:=⟨b,off+j,none⟩) (hb b (O b rfl).2 (λe=>(O b rfl).1 (by rw[e];exact mI m)))).trans (x j u hj)⟩
 ·have e:(if k=K then some cs else d.cr k)=some c:=e;split at e
  ·have:=Option.some.inj e;rw[<- this];exact U
  ·exact h.ok.cl k c e
theorem DK.planF{w w':Wd}{m:DiskM}{d:DiskD}(h:DK w m d){K:Int}(hb:∀ k,k<w.heap.size->k≠m.bf->w'.heap[k]? = w.heap[k]?)(I:w.heap.size<=w'.heap.size)(R:UM w' m.bf (d.room+1) (lY m.fv K (.bool true)))(O:d.room+1<=100000):
  DK w' { m with fv:=lY m.fv K (.bool true) } { d with fl:=λk=>if k=K then true else d.fl k,room:=d.room+1 }:=by
 have x:=iJ h.nd;refine h.re rfl [m.bf] (λk j=>by rw[List.mem_singleton] at j;rw[j];exact oQ m) (λk j J=>hb k j (by simpa using J)) I ((hb m.g h.blk.lt x.2.1).trans h.blk) (aQ h.sec λb D=>hb b (h.sec.lt b D).2 (x.2.2.2.2.2.2.1 b D).2.2.1) (aQ h.opn λb D=>hb b (h.opn.lt b D).2 (x.2.2.2.2.2.2.2.1 b D).2.2.1) ((h.last.of_block (hb _ h.last.lt x.2.2.2.1)).mono (Nat.le_succ _)) R ((h.cr.of_block (hb _ h.cr.lt (λe=>x.2.2.2.2.2.1 e.symm))).mono (Nat.le_succ _)) h.nd (λb hb=>.inl hb) (λk j=>?_) (λk j=>.inr ⟨rfl,rfl⟩) ⟨h.ok.sec,h.ok.opn,h.ok.few,Nat.le_succ_of_le h.ok.lo,Nat.le_succ_of_le h.ok.st,O,h.ok.cl⟩;show(lY m.fv K (.bool true) k).getD (.bool false) = .bool (if k=K then true else d.fl k);unfold lY;by_cases e:k=K
 ·rw[jP e,jP e];rfl
 ·rw[jQ e,jQ e];exact h.flv k j
theorem ZL:SlT prog 69 3 1 8:=SlT.mk' underlying69 (z:=.int .i64 0) (by kernel_rfl) rfl (by decide)
theorem PP(l:Wl):∀ u∈lV l,u.oneCell'=true:=by
 intro u j;simp only[lV,List.mem_map] at j;obtain⟨_,_,rfl⟩:=j;rfl
theorem G0(V:Value)(n:Nat)(O:Wv)(w:Wd)(hs:Sn w 1 V n O)(h1:∀ u∈O,u.oneCell'=true)(hn:n<=1000000):
  Wc 117 #[V] w λe w'=>∃ v,e = .returned v/\Sn w' 1 v n O/\(∀ b,v.ownBlock=some b->w.heap.size<=b/\b<w'.heap.size)/\Bw w w':=by
 obtain⟨A,cap,rfl,R,hl,U⟩:=id hs;have Z:=jz hs;have HX:=jz U;clear U;cases A with
 | none=>
  have I:∀ w:Wd,(binOp .eql 69 (.slice none n cap) (.slice none 0 0)).run prog w = .ok (.bool true) w:=λ_=>rfl
  go_enter func117,ntmps117
  go_wp2_with fail
  go_ret;have K:n=0:=by
   rcases Nat.eq_zero_or_pos n with h|h
   ·exact h
   ·obtain⟨b,off,e,_⟩:=HX.out h;cases e
  subst K;exact⟨_,rfl,⟨none,0,rfl,ja _,hl,λh=>absurd h (by omega)⟩,(λb e=>by cases e),ji _ _⟩
 | some a=>
  have I:∀ w:Wd,(binOp .eql 69 (.slice (some a) n cap) (.slice none 0 0)).run prog w = .ok (.bool false) w:=λ_=>rfl
  have x:(w.alloc (.cells #[] 3)).ownsRow w.heap.size 3 1 (.slice (some ⟨w.heap.size,0,none⟩) 0 0) 0 []:=uG w #[] 3 1 0 w.heap.size w.heap.size (ja _) rfl (by unfold maxLen;omega) rfl;go_enter func117,ntmps117
  clear hs;go_wp2_with (at_builtin;refine app ZL (.tmp 5) (.tmp 6) rfl rfl rfl x rfl (Z.alloc _) h1 (by unfold maxLen;omega) (by omega) (by simp) ?_;intro v' w3 j D _)
  go_ret;have hb:Bw w w3:=((ji _ w).alloc (ja _) _).grown D (by simp) (λg hg=>by have:=(x.lt g hg).1;omega);have J:=j.lt;have:=Sn.own j;rw[Nat.zero_add,List.nil_append] at this;exact⟨_,rfl,this,λb e=>J b e,hb⟩
theorem MC(n:Int)(w:Wd)(m:DiskM)(d:DiskD)(h:DK w m d)(a1:n<=1000000000)(hr:d.room+1<=100000):
  Wc 74 #[.pointer (some ⟨m.g,0,none⟩),.int .i64 n] w λe w'=>e = .returned (.tuple #[])/\∃ m',DK w' m' (planF d n)/\DT w m w' m':=by
 have H:=jz h;have a2:d.steps<=100000:=jm h.ok.st h.ok.rm;clear h;rcases jb (decide (1<=n)) with t1|t1
 ·have h1:1<=n:=of_decide_eq_true t1;have V:Hid (planF d n={ d with fl:=λk=>if k=(d.steps:Int)+n then true else d.fl k,room:=d.room+1 }):=jz (by unfold planF;rw[jQ (by omega)]);have J:aE ((d.steps:Int)+n):=by unfold aE;omega
  obtain⟨w3,K,O,j⟩:∃ w3,Hid ((Instr.mapUpdate 147 (.map (some m.bf)) (.int .i64 ((d.steps:Int)+n)) (.bool true)).run prog w.drew = .ok () w3)/\Hid (UM w3 m.bf (d.room+1) (lY m.fv ((d.steps:Int)+n) (.bool true)))/\Hid (w.drew.grownBy w3 (some m.bf)):=by
   obtain⟨w3,h1,h2,h3⟩:=UM.put_run (w:=w.drew) underlying147 H.out.fl J (.bool true) (by unfold maxLen;omega);exact⟨w3,jz h1,jz h2,jz h3.grown⟩
  have D:Hid (∀ k,k<w.heap.size->k≠m.bf->w3.heap[k]? = w.heap[k]?):=jz (λk J hn=>j.block k J (λe=>hn (Option.some.inj e)));have R:Hid (DK w3 { m with fv:=lY m.fv ((d.steps:Int)+n) (.bool true) } (planF d n)):=jz (by rw[V.out];exact H.out.planF D j.size O hr);have U:Hid (DT w m w3 { m with fv:=lY m.fv ((d.steps:Int)+n) (.bool true) }):=jz ⟨rfl,⟨j.os,j.tape,j.output,j.size,λk J hm=>D.out k J (λe=>hm (by rw[e];exact oQ m))⟩,λb hb=>.inl hb,λ_ _ h=>.inl h⟩;have Z:Hid (w.drew.cell? ⟨m.g,5,none⟩=some (.map (some m.bf))/\w.drew.cell? ⟨m.g,4,none⟩=some (.int .i64 (d.steps:Int))):=jz ⟨H.out.blk.cell 5,H.out.blk.cell 4⟩;have a0:Hid (w3.cell? ⟨m.g,5,none⟩=some (.map (some m.bf))/\w3.cell? ⟨m.g,4,none⟩=some (.int .i64 (d.steps:Int))):=jz (by
   have hB:Blk w3 m.g 151 (eG m d):=(D.out m.g H.out.blk.lt (iJ H.out.nd).2.1).trans H.out.blk
   exact⟨hB.cell 5,hB.cell 4⟩)
  have y1:IntKind.i64.wrap ((d.steps:Int)+n)=(d.steps:Int)+n:=IntWalk.i64_in _ (by omega);clear J;go_enter func74,ntmps74
  go_wp2_with fail
  refine bQ 11 (λwz=>wz.cell? ⟨m.g,5,none⟩=some (.map (some m.bf))/\wz.cell? ⟨m.g,4,none⟩=some (.int .i64 (d.steps:Int))) (by kernel_rfl) (by kernel_rfl) (Z) (λx=>?_);refine jM 0 (.tmp 0) (some 10) (.pointer (some ⟨m.g,0,none⟩)) x ?_;simp only[jq];refine jT 1 (.nilCheck (.tmp 10)) (some 11) (.pointer (some ⟨m.g,0,none⟩)) x ?_;simp only[jq];refine jT 2 (.fieldAddr 151 (.tmp 11) 5) (some 12) (.pointer (some ⟨m.g,5,none⟩)) x ?_;simp only[jq];refine jT 3 (.load 147 (.tmp 12)) (some 13) (.map (some m.bf)) (hy:=λo ho wX hX=>by have I:=hX.1;unfold execOp;simp only[ho];go_simp) x ?_;simp only[jq];refine jM 4 (.tmp 0) (some 14) (.pointer (some ⟨m.g,0,none⟩)) x ?_;simp only[jq];refine jT 5 (.nilCheck (.tmp 14)) (some 15) (.pointer (some ⟨m.g,0,none⟩)) x ?_;simp only[jq];refine jT 6 (.fieldAddr 151 (.tmp 15) 4) (some 16) (.pointer (some ⟨m.g,4,none⟩)) x ?_;simp only[jq];refine jT 7 (.load 3 (.tmp 16)) (some 17) (.int .i64 (d.steps:Int)) (hy:=λo ho wX hX=>by have I:=hX.2;unfold execOp;simp only[ho];go_simp) x ?_;simp only[jq];refine jM 8 (.tmp 1) (some 18) (.int .i64 n) x ?_;simp only[jq];refine jT 9 (.binOp .add 3 (.tmp 17) (.tmp 18) 3) (some 19) (.int .i64 ((d.steps:Int)+n)) x ?_;simp only[jq];refine jW [10] ?_;refine XU 10 (.tmp 13) (.tmp 19) (.const (.bool true)) none w3 (by kernel_rfl) (by kernel_rfl) (by rfl) (by rfl) (by rfl) K a0 ?_ jN;simp only[jq];refine wpAnyH_done (by kernel_rfl) ?_ _;clear x;go_wp2_with fail
  exact bodyPost_end (results_none rfl _ _ _) rfl ⟨rfl,_,R,U⟩
 ·have V:Hid (planF d n=d):=jz (by unfold planF;rw[jP];have:=of_decide_eq_false t1;omega);go_enter func74,ntmps74
  go_wp2_with fail
  exact bodyPost_end (results_none rfl _ _ _) rfl ⟨rfl,m,by rw[V.out];exact H,DT.refl⟩
theorem BN(n:Int)(va:Value)(cl:Wl)(w:Wd)(m:DiskM)(d:DiskD)(h:DK w m d)(hs:Sn w 1 va cl.length (lV cl))(a1:cl.length<=1000000)(a9:n<=1000000000)(hr:d.room+1<=100000):
  Wc 76 #[.pointer (some ⟨m.g,0,none⟩),.int .i64 n,va] w λe w'=>e = .returned (.tuple #[])/\∃ m',DK w' m' (planC d n cl)/\DT w m w' m':=by
 have H:=jz h;have b0:d.steps<=100000:=jm h.ok.st h.ok.rm;have a4:=jz (G0 va cl.length _ w.drew hs (PP cl) a1);clear h hs;rcases jb (decide (1<=n)) with t1|t1
 ·have h1:1<=n:=of_decide_eq_true t1;have HF:Hid (planC d n cl={ d with cr:=λk=>if k=(d.steps:Int)+n then some cl else d.cr k,room:=d.room+1 }):=jz (by unfold planC;rw[jQ (by omega)]);have hk:aE ((d.steps:Int)+n):=by unfold aE;omega
  have a0:Hid (∀(v:Value) (w2:Wd),Sn w2 1 v cl.length (lV cl)->(∀ b,v.ownBlock=some b->w.heap.size<=b/\b<w2.heap.size)->Bw w w2->∃ w3,(Instr.mapUpdate 148 (.map (some m.bc)) (.int .i64 ((d.steps:Int)+n)) v).run prog w2 = .ok () w3/\DK w3 { m with cv:=lY m.cv ((d.steps:Int)+n) v } (planC d n cl)/\DT w m w3 { m with cv:=lY m.cv ((d.steps:Int)+n) v }/\w3.cell? ⟨m.g,6,none⟩=some (.map (some m.bc))/\w3.cell? ⟨m.g,4,none⟩=some (.int .i64 (d.steps:Int))):=jz (λv w2 hs R hb=>by
   have H2:=H.out.keep hb
   obtain⟨w3,e1,e2,e3⟩:=UM.put_run underlying148 H2.cr hk v (by unfold maxLen;omega)
   have hg:=e3.grown
   have K:∀ k,k<w2.heap.size->k≠m.bc->w3.heap[k]? = w2.heap[k]?:=λk hk hn=>hg.block k hk (λe=>hn (Option.some.inj e))
   have a2:∀ b,v.ownBlock=some b->b ∉ aZ m:=λb e hm=>by have h1:=H.out.foot_lt b hm;have h2:=R b e;omega
   have a8:=H2.planC K hg.size e2 (cs:=cl) (by
    obtain⟨A,cap,rfl,a7,hl,hx⟩:=hs
    refine⟨A,cap,rfl,a7,hl,λhp=>?_⟩
    obtain⟨b,off,rfl,D⟩:=hx hp
    exact⟨b,off,rfl,λj u hj=>(World.cell?_of_block (a:=⟨b,off+j,none⟩) (K b (R b rfl).2 (λe=>a2 b rfl (by rw[e];exact mI m)))).trans (D j u hj)⟩) (λb e=>⟨a2 b e,jp (R b e).2 hg.size⟩) a1 hr
   have hB:Blk w3 m.g 151 (eG m d):=(K m.g H2.blk.lt (iJ H.out.nd).2.2.1).trans H2.blk
   refine⟨w3,e1,by rw[HF.out];exact a8,⟨rfl,(Fo.of_below hb).trans (G:=aZ m) ⟨hg.os,hg.tape,hg.output,hg.size,λk hk hm=>K k hk (λe=>hm (by rw[e];exact mI m))⟩ (λx hx=>.inl hx),λb hb=>.inl hb,λk x hx=>by
    have hx:(if k=(d.steps:Int)+n then some v else m.cv k)=some x:=hx
    split at hx
    ·injection hx with hx
     subst hx
     exact .inr (λb e=>(R b e).1)
    ·exact .inl hx⟩,hB.cell 6,hB.cell 4⟩)
  have Z:Hid (w.drew.cell? ⟨m.g,6,none⟩=some (.map (some m.bc))/\w.drew.cell? ⟨m.g,4,none⟩=some (.int .i64 (d.steps:Int))):=jz ⟨H.out.blk.cell 6,H.out.blk.cell 4⟩;have y1:IntKind.i64.wrap ((d.steps:Int)+n)=(d.steps:Int)+n:=IntWalk.i64_in _ (by omega);clear hk;go_enter func76,ntmps76
  go_wp2_with fail
  refine bQ 13 (λwz=>wz.cell? ⟨m.g,6,none⟩=some (.map (some m.bc))/\wz.cell? ⟨m.g,4,none⟩=some (.int .i64 (d.steps:Int))) (by kernel_rfl) (by kernel_rfl) (Z) (λI=>?_);refine jM 0 (.tmp 0) (some 12) (.pointer (some ⟨m.g,0,none⟩)) I ?_;simp only[jq];refine jT 1 (.nilCheck (.tmp 12)) (some 13) (.pointer (some ⟨m.g,0,none⟩)) I ?_;simp only[jq];refine jT 2 (.fieldAddr 151 (.tmp 13) 6) (some 14) (.pointer (some ⟨m.g,6,none⟩)) I ?_;simp only[jq];refine jT 3 (.load 148 (.tmp 14)) (some 15) (.map (some m.bc)) (hy:=λo ho wX hX=>by have D:=hX.1;unfold execOp;simp only[ho];go_simp) I ?_;simp only[jq];refine jM 4 (.tmp 0) (some 16) (.pointer (some ⟨m.g,0,none⟩)) I ?_;simp only[jq];refine jT 5 (.nilCheck (.tmp 16)) (some 17) (.pointer (some ⟨m.g,0,none⟩)) I ?_;simp only[jq];refine jT 6 (.fieldAddr 151 (.tmp 17) 4) (some 18) (.pointer (some ⟨m.g,4,none⟩)) I ?_;simp only[jq];refine jT 7 (.load 3 (.tmp 18)) (some 19) (.int .i64 (d.steps:Int)) (hy:=λo ho wX hX=>by have D:=hX.2;unfold execOp;simp only[ho];go_simp) I ?_;simp only[jq];refine jM 8 (.tmp 1) (some 20) (.int .i64 n) I ?_;simp only[jq];refine jT 9 (.binOp .add 3 (.tmp 19) (.tmp 20) 3) (some 21) (.int .i64 ((d.steps:Int)+n)) I ?_;simp only[jq];refine jM 10 (.tmp 2) (some 22) (va) I ?_;simp only[jq];refine jW [11] ?_;refine jC 11 (.call { callee:=.value (.func 117),args:=#[.tmp 22],argTypes:=#[69] }) (some 23) 117 #[va] ?_ jN;refine a4.mono ?_;rintro e w2 ⟨v2,rfl,h2,h3,h4⟩;have O:Bw w w2:=(ji w.heap.size w).drew.trans h4;obtain⟨w3,J,U,V,a3⟩:=a0.out v2 w2 h2 h3 O;refine⟨_,rfl,⟨j9 O Z.out.1,j9 O Z.out.2⟩,λ_=>?_⟩;simp only[jq];refine jW [12] ?_;refine XU 12 (.tmp 15) (.tmp 21) (.tmp 23) none w3 (by kernel_rfl) (by kernel_rfl) (by rfl) (by rfl) (by rfl) J a3 ?_ jN;simp only[jq];refine wpAnyH_done (by kernel_rfl) ?_ _;have a5:=jz U;have a6:=jz V;clear h2 h3 h4 O J U V a3;clear I;go_wp2_with fail
  exact bodyPost_end (results_none rfl _ _ _) rfl ⟨rfl,_,a5,a6⟩
 ·have HF:Hid (planC d n cl=d):=jz (by unfold planC;rw[jP];have:=of_decide_eq_false t1;omega);go_enter func76,ntmps76
  go_wp2_with fail
  exact bodyPost_end (results_none rfl _ _ _) rfl ⟨rfl,m,by rw[HF.out];exact H,DT.refl⟩
end
end Go.Proofs.YtiaigidbcljblaaGreatDoor
