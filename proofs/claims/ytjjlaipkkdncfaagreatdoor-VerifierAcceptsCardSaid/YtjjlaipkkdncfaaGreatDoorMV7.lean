import Derived.Test.YtjjlaipkkdncfaaGreatDoorMV5
import Derived.Test.YtjjlaipkkdncfaaGreatDoorMV4
import Derived.Deep.DeepCutAuto
set_option linter.unusedSimpArgs false
set_option maxRecDepth 100000
set_option maxHeartbeats 40000000
namespace Go.Proofs.YtjjlaipkkdncfaaGreatDoor
open Go.Proofs.Tryz
section
open Go.RowKit
attribute [local irreducible] wpQuiet wpAnyH
def fN(cut:Nat->Int)(r:List Wl)(l:List (Int×Wl)):Nat->List Wl
 | 0=>r
 | j+1=>(fN cut r l j).set (l.getD j (0,[])).1.toNat (eM ((fN cut r l j).getD (l.getD j (0,[])).1.toNat []) (l.getD j (0,[])).2 (cut j))
theorem nG(cut:Nat->Int)(r:List Wl)(l:List (Int×Wl)):∀ j,(fN cut r l j).length=r.length
 | 0=>rfl
 | j+1=>by unfold fN;rw[List.length_set,nG cut r l j]
theorem qE(cut:Nat->Int)(r:List Wl)(l:List (Int×Wl))(J:∀ s∈r,Sec s)(D:∀ p∈l,0<=p.1/\p.1<r.length/\Sec p.2):∀ j,j<=l.length->∀ s∈fN cut r l j,Sec s
 | 0,_=>J
 | j+1,hj=>λs hs=>by
  have ih:=qE cut r l J D j (by omega);unfold fN at hs;rcases List.mem_or_eq_of_mem_set hs with h|h
  ·exact ih s h
  ·have O:=D l[j] (List.getElem_mem (by omega));have K:l.getD j (0,[])=l[j]:=by simp[jn,show j<l.length by omega]
   rw[h,K];have I:=nG cut r l j;refine pZ _ ?_ O.2.2;rw[show(fN cut r l j).getD l[j].1.toNat []=(fN cut r l j)[l[j].1.toNat]'(by omega) by simp[jn,show l[j].1.toNat<(fN cut r l j).length by omega]];exact ih _ (List.getElem_mem _)
section
variable {P : Program} {ops : Array Oper} {Q : Exit -> Act -> Wd -> Prop} {S : Wd -> Prop} {a : Act} {w : Wd} {listed : Array Bool} {fuel : Nat}
theorem L8{I:List Nat}(i:Nat)(ty:TypeId)(x:Operand)(dst:Option Tmp){b off:Nat}{cs:Wv}{d:TypeDesc}(hd:(ops[i]?).map (λo=>(o.op,o.dst))=some (.load ty x,dst))(R:(ops[i]?).map (λo=>Region.wanted o (yielded ops a.tmps))=some true)
  (U:a.eval x = .pointer (some ⟨b,off,none⟩)) (J:w.rangeAt b off cs) (O:P.underlying ty=some d) (D:d.isRow=true) (hi:(P.info? ty).map (·.size)=some cs.length) (hS:S w)
  (h:wpAnyH P .any ops Q S fuel (listed.setIfInBounds i true) (a.put dst (.agg cs.toArray)) w) (hs:AllReadyH P .any ops Q S fuel listed a w I):AllReadyH P .any ops Q S fuel listed a w (i :: I):=
 AO i _ dst _ _ hd R (λo K=>by
  unfold execOp
  simp only[K,U,Instr.loadAt,Instr.sureAddr,Sem.run_bind,Sem.run_pure,Result.andThen_ok,run_loadVar_mid w b off ty cs d J O D hi]) hS h hs
end
theorem QL(A:Option Addr)(n cap:Nat)(O:Wv)(w:Wd)(hs:Sn w 64 (.slice A n cap) n O)(h1:∀ u∈O,u.oneCell'=true)(hn:n<=100000):
  Wc 231 #[.slice A n cap] w λe w'=>∃ v,e = .returned v/\w'.ownsRow w.heap.size 195 64 v n O/\Bw w w':=by
 have HS:=jz hs;clear hs;cases A with
 | none=>
  have U:∀ w:Wd,(binOp .eql 84 (.slice none n cap) (.slice none 0 0)).run prog w = .ok (.bool true) w:=λ_=>rfl
  obtain⟨A',c',hv,_,hl,hx⟩:=HS.out;have K:O.length=0:=by
   rcases Nat.eq_zero_or_pos n with R|R
   ·rw[hl,R]
   ·obtain⟨g,off,e,_⟩:=hx R;injection hv with e1 _ _
    rw[<- e1] at e;cases e
  have V:n=0:=by omega
  have Z:O=[]:=List.eq_nil_of_length_eq_zero K;subst V Z;clear hv hl hx K;go_enter func231,ntmps231
  go_wp2_with fail
  go_ret;exact⟨_,rfl,World.ownsRow_nil _ _ _ _,ji _ _⟩
 | some a=>
  have U:∀ w:Wd,(binOp .eql 84 (.slice (some a) n cap) (.slice none 0 0)).run prog w = .ok (.bool false) w:=λ_=>rfl
  have I:(w.alloc (.cells #[] 195)).ownsRow w.heap.size 195 64 (.slice (some ⟨w.heap.size,0,none⟩) 0 0) 0 []:=nC w #[] 195 64 0 w.heap.size w.heap.size (ja _) rfl (by unfold maxLen;omega) rfl;have hT:SlT prog 84 195 64 64:=SlT.mk' underlying84 (z:=.agg (u8s (List.replicate 64 0)).toArray) (by kernel_rfl) rfl (by decide);go_enter func231,ntmps231
  go_wp2_with (at_builtin;refine app hT (.tmp 5) (.tmp 6) rfl rfl rfl I rfl (HS.alloc _) h1 (by unfold maxLen;omega) (by omega) (by simp) ?_;intro v' w3 D J _)
  go_ret;have hb:Bw w w3:=((ji _ w).alloc (ja _) _).grown J (by simp) (λg hg=>by have:=(I.lt g hg).1;omega);rw[Nat.zero_add,List.nil_append] at D;exact⟨_,rfl,D,hb⟩
theorem EH(j:Nat)(U:Nat)(cs:Wl)(A:Option Addr)(cap:Nat)(w:Wd)(hb:w.cell? ⟨U,0,none⟩=some (.slice A cs.length cap))(hs:Sn w 1 (.slice A cs.length cap) cs.length (yU cs))(hj:j<=1000000)(a0:cs.length<=1000000):
  Wc 201 #[.int .i64 (j:Int),.pointer (some ⟨U,0,none⟩)] w λe w'=>e = .returned (.int .i64 (cs.getD j 0))/\w'=w:=by
 have HS:=jz hs;clear hs;generalize hG:cs.getD j 0=G;have I:=jz hG;clear hG;rcases jo j cs.length with K|R
 ·obtain⟨A',V,hv,_,_,Z⟩:=HS.out;injection hv with e1 _ e3
  subst e1 e3;obtain⟨b,off,rfl,D⟩:=Z (by omega);have hc:=D j (.int .i64 cs[j]) (by simp[yU,K]);have O:Hid (G=cs[j]):=jz (by rw[<- I.out];simp[jn,K]);obtain⟨c,J⟩:=je (cs[j]);rw[<- J] at hc O;clear D J Z;have h0:(0:Int)<=j:=by omega
  have h1:(j:Int)<cs.length:=by omega
  go_enter func201,ntmps201
  go_wp2_with fail
  go_ret;exact⟨by rw[O.out];rfl,rfl⟩
 ·have O:Hid (G=0):=jz (by rw[<- I.out];simp[jn,Nat.not_lt.2 R]);have t1:decide ((j:Int)<cs.length)=false:=by simp;omega
  have t2:decide (j<cs.length)=false:=by simp;omega
  go_enter func201,ntmps201
  go_wp2_with fail
  go_ret;exact⟨by rw[O.out];rfl,rfl⟩
def SB7(g:Nat)(p:Int×Wl)(w:Wd):Prop:=w.rangeAt g 0 (wrC p)
theorem L9:∀ w,(zeroValue 197).run prog w = .ok (.agg (wrC (0,List.replicate 64 0)).toArray) w:=λw=>by kernel_rfl
theorem MA(sec:List Wl)(opn:List (Int×Wl))(As Ao:Option Addr)(cs co bp:Nat)(cut:Nat->Int)(w:Wd)
  (hs:Sn w 64 (.slice As sec.length cs) sec.length (sec.flatMap u8s)) (ho:Sn w 65 (.slice Ao opn.length co) opn.length (opn.flatMap wrC))
  (c4:∀ s∈sec,Sec s) (c3:∀ p∈opn,0<=p.1/\p.1<sec.length/\Sec p.2) (h1:sec.length<=4096) (h2:opn.length<=100000)
  (hcut:∀(j:Nat) (w1:Wd),j<opn.length->Bw w w1->Wc 201 #[.int .i64 (j:Int),.pointer (some ⟨bp,0,none⟩)] w1 λe w'=>e = .returned (.int .i64 (cut j))/\w'=w1):
  Wc 200 #[.slice As sec.length cs,.slice Ao opn.length co,.func (.func 201) #[] #[.pointer (some ⟨bp,0,none⟩)]] w λe w'=>∃ v,e = .returned v/\w'.ownsRow w.heap.size 195 64 v sec.length ((fN cut sec opn opn.length).flatMap u8s)/\Bw w w':=by
 have HO:=jz ho;have f6:=jz c4;have c7:=jz c3;have f2:=jz hcut;have f1:=jz (QL As sec.length cs _ w hs (λu hu=>by
  obtain⟨s,_,hu⟩:=List.mem_flatMap.1 hu
  exact cI s u hu) (by omega))
 clear hs ho c4 c3 hcut;go_enter func200,ntmps200
 go_wp2_with (go_at_call 231;refine f1.mono ?_;rintro e w1 ⟨v1,rfl,D,e6⟩;obtain⟨Ar,cr,rfl,_,_⟩:=bN D;have f3:=jz D;have f0:=jz e6;clear D e6)
 go_loopw [14] (λi wr=>∃ j:Nat,j<=opn.length/\i = .int .i64 (j:Int)/\Hid (wr.ownsRow w.heap.size 195 64 (.slice Ar sec.length cr) sec.length ((fN cut sec opn j).flatMap u8s))/\Hid (Bw w wr)) (λi _=>opn.length-(intOf i).toNat)
 case atStart=>exact⟨0,j0 _,rfl,f3,f0⟩
 case round=>
  obtain⟨j,hj,rfl,HR,HB⟩:=hrel;have g8:=HB.size;rcases jo j opn.length with b0|h3
  ·obtain⟨b1,o1,rfl,d2⟩:=LR (HO.below HB) (λp hp=>(c7 p hp).2.2) j b0;have hp:=c7.out _ (List.getElem_mem b0);have HTJ:Hid (fN cut sec opn (j+1)=(fN cut sec opn j).set opn[j].1.toNat (eM ((fN cut sec opn j).getD opn[j].1.toNat []) opn[j].2 (cut j))):=jz (by
    show(fN cut sec opn j).set (opn.getD j (0,[])).1.toNat _=_
    rw[show opn.getD j (0,[])=opn[j] by simp[jn,b0]])
   have c5:=jz (λw1 hb=>f2.out j w1 b0 hb);have d3:=nG cut sec opn j;have a7:=jz (qE cut sec opn f6 c7 j (by omega));obtain⟨c,hc⟩:=je (cut j);obtain⟨L,hL⟩:=je (fN cut sec opn j);obtain⟨⟨a,dat⟩,e8⟩:∃ p,p=opn[j]:=⟨_,rfl⟩;rw[<- e8] at d2 hp HTJ;rw[<- hc] at HTJ c5;rw[<- hL] at HTJ a7 d3 HR;clear e8 hc hL;obtain⟨k,rfl⟩:=Int.eq_ofNat_of_zero_le hp.1;have a9:k<L.length:=by have:=hp.2.1;simp only at this;omega
   have g0:(k:Int)<(sec.length:Int):=hp.2.1;have a6:Hid (Sec dat):=jz hp.2.2;have HTJ:Hid (fN cut sec opn (j+1)=L.set k (eM (L.getD k []) dat c)):=HTJ;clear hp;have f5:=jz d2;clear d2;have a8:=fI (p:=((k:Int),dat)) a6.out;have f9:Hid ((prog.info? 197).map (·.size)=some (wrC ((k:Int),dat)).length):=jz (by rw[a8];kernel_rfl);have d0:Hid ((prog.info? 197).map (·.size)=some (wrC ((k:Int),dat)).toArray.size/\(wrC (0,List.replicate 64 0)).toArray.size=(wrC ((k:Int),dat)).toArray.size/\(wrC ((k:Int),dat)).toArray.all (·.oneCell')=true):=jz ⟨by rw[js,a8];kernel_rfl,by rw[js,js,a8];rfl,all_oneCell_toArray (sW _)⟩;clear a8;have h4:(0:Int)<=j:=by omega
   have h5:(j:Int)<opn.length:=by omega
   have h6:(0:Int)<=k:=by omega
   go_upto_region 5 with (first
    | (refine ld 197 _ rfl rfl rfl f5 underlying197 rfl f9 ?_)
    | (refine al 197 _ rfl rfl L9 ?_)
    | (refine bQ 197 (.tmp 9) (.tmp 18) rfl rfl (by rfl) (by rfl) d0.out.1 d0.out.2.1 d0.out.2.2 ?_;intro U hK e7 g2;have e0:=jz (show Blk U wr.heap.size 197 (wrC ((k:Int),dat)).toArray from hK);have d5:=jz e7;clear hK e7 g2))
   have g3:U.cell? ⟨wr.heap.size,0,none⟩=some (.int .i64 (k:Int)):=e0.cell 0;go_wp2_with fail
   have d7:Hid (U.rangeAt wr.heap.size 0 (wrC ((k:Int),dat))):=jz (by have h:=e0.range;rw[jt] at h;exact h);have f4:=jz (aE HR d5);have Z:=jz (aB HB d5);obtain⟨K,rfl⟩:∃ K,Ar=some ⟨K,0,none⟩:=by
    rcases HR.out.2 with ⟨_,h⟩|⟨g,cp,h0,hv,_⟩
    ·omega
    ·injection hv with e1 _ _;exact⟨g,e1⟩
   have f7:=jz d3;have b7:Hid (U.ownsRow w.heap.size 195 64 (.slice (some ⟨K,0,none⟩) L.length cr) L.length (L.flatMap u8s)):=jz (by have h:=f4.out;rw[<- show L.length=sec.length from d3] at h;exact h);have b3:Hid (L.getD k []=L[k]):=jz (by simp[jn,a9]);have c9:Hid (Sec L[k]):=jz (a7 _ (List.getElem_mem a9));have b9:Hid (∀ w3,Bw U w3->w3.rangeAt K (k*64) (u8s L[k])):=jz (λw3 hb=>by
    obtain⟨b,off,e,hr⟩:=LQ (Sn.own b7) a7 k a9
    injection e with e
    injection e with e1 e2
    rw[<- e1,<- e2,Nat.zero_add] at hr
    exact λj u hj=>j9 hb (hr j u hj))
   have e3:=jz (λw3=>L4 L[k] dat c w3 c9 a6);have c2:Hid (Sec (eM L[k] dat c)):=jz (pZ c c9 a6);have f8:Hid ((prog.info? 195).map (·.size)=some (u8s dat).length):=jz (by rw[aH a6.out];kernel_rfl);have e4:Hid ((prog.info? 195).map (·.size)=some (u8s L[k]).length):=jz (by rw[aH c9.out];kernel_rfl);have e5:Hid ((prog.info? 195).map (·.size)=some (u8s (eM L[k] dat c)).length):=jz (by rw[aH c2.out];kernel_rfl);have b2:Hid (∀ I,Bw U I->I.there K (k*64) (u8s (eM L[k] dat c)).length/\(I.setCells K (k*64) (u8s (eM L[k] dat c))).ownsRow w.heap.size 195 64 (.slice (some ⟨K,0,none⟩) sec.length cr) sec.length ((fN cut sec opn (j+1)).flatMap u8s)/\Bw w (I.setCells K (k*64) (u8s (eM L[k] dat c)))/\SB7 wr.heap.size ((k:Int),dat) (I.setCells K (k*64) (u8s (eM L[k] dat c)))):=jz (λI hb=>by
    obtain⟨q1,q2,q3⟩:=GQ u8s Sec 64 (λr h=>aH h) (aE b7 hb) a7 k a9 (eM L[k] dat c) c2.out
    rw[List.length_set,<- b3.out,<- HTJ.out] at q1
    rw[show L.length=sec.length from f7.out,b3.out] at q1
    refine⟨q2,q1,(aB Z hb).trans (aU q3 _ _ _).1,?_⟩
    have g1:K≠wr.heap.size:=λe=>by have:=(HR.lt K rfl).2;omega
    exact λi u hi=>(World.cell?_of_block (a:=⟨wr.heap.size,0+i,none⟩) (bF (λe=>g1 e.symm) _ _ _)).trans (j9 hb (d7 i u hi)))
   have c6:Hid (∀ I,SB7 wr.heap.size ((k:Int),dat) I->I.cell? ⟨wr.heap.size,0,none⟩=some (.int .i64 (k:Int))/\I.rangeAt wr.heap.size 1 (u8s dat)):=jz (λI h=>⟨h 0 _ rfl,λi u hi=>by have:=h (i+1) u hi;rw[show 1+i=0+(i+1) by omega];exact this⟩);have O:Hid (SB7 wr.heap.size ((k:Int),dat) U.drew):=jz d7.out;have a0:Hid (∀ I w5,SB7 wr.heap.size ((k:Int),dat) I->Bw I w5->SB7 wr.heap.size ((k:Int),dat) w5):=jz (λI w5 h hb i u hi=>j9 hb (h i u hi));have R:Hid (Bw U U.drew):=jz (ji _ _).drew;have h7:(k:Int)<(sec.length:Int):=g0;refine cC 16 (SB7 wr.heap.size ((k:Int),dat)) (by kernel_rfl) (by kernel_rfl) (O) (λhH=>?_);refine jM 0 (.tmp 7) (some 29) (.slice (some ⟨K,0,none⟩) sec.length cr) hH ?_;simp only[jq];refine jT 1 (.fieldAddr 197 (.tmp 9) 0) (some 30) (.pointer (some ⟨wr.heap.size,0,none⟩)) hH ?_;simp only[jq];refine jT 2 (.load 3 (.tmp 30)) (some 31) (.int .i64 (k:Int)) (hy:=λo ho wX hX=>by have d1:=(c6.out wX hX).1;unfold execOp;simp only[ho];go_simp) hH ?_;simp only[jq];refine jM 3 (.tmp 7) (some 32) (.slice (some ⟨K,0,none⟩) sec.length cr) hH ?_;simp only[jq];refine jT 4 (.fieldAddr 197 (.tmp 9) 0) (some 33) (.pointer (some ⟨wr.heap.size,0,none⟩)) hH ?_;simp only[jq];refine jT 5 (.load 3 (.tmp 33)) (some 34) (.int .i64 (k:Int)) (hy:=λo ho wX hX=>by have d1:=(c6.out wX hX).1;unfold execOp;simp only[ho];go_simp) hH ?_;simp only[jq];refine jT 6 (.indexAddr 84 (.tmp 32) (.tmp 34)) (some 35) (.pointer (some ⟨K,k*64,none⟩)) hH ?_;simp only[jq];refine jT 8 (.fieldAddr 197 (.tmp 9) 1) (some 37) (.pointer (some ⟨wr.heap.size,1,none⟩)) hH ?_;simp only[jq];refine jL 9 195 (.tmp 37) (some 38) (cs:=u8s dat) (λ_ hX=>(c6 _ hX).2) underlying195 rfl f8 hH ?_;simp only[jq];refine jM 10 (.tmp 2) (some 39) (.func (.func 201) #[] #[.pointer (some ⟨bp,0,none⟩)]) hH ?_;simp only[jq];refine jM 11 (.tmp 8) (some 40) (.int .i64 (j:Int)) hH ?_;simp only[jq];refine jW [7,12] ?_;refine L8 7 195 (.tmp 35) (some 36) (cs:=u8s L[k]) (by kernel_rfl) (by kernel_rfl) (by exact rfl) (b9 _ R) underlying195 rfl e4 O ?_ (jC 12 (.call { callee:=.value (.tmp 39),args:=#[.tmp 40],argTypes:=#[3] }) (some 41) 201 #[.int .i64 (j:Int),.pointer (some ⟨bp,0,none⟩)] ?_  jN)
   ·simp only[jq];refine jW [12] ?_;refine jC 12 (.call { callee:=.value (.tmp 39),args:=#[.tmp 40],argTypes:=#[3] }) (some 41) 201 #[.int .i64 (j:Int),.pointer (some ⟨bp,0,none⟩)] ?_  jN;refine(c5 _ (aB Z R)).mono ?_;rintro e wM ⟨rfl,d4⟩;rw[d4];refine⟨_,rfl,O,λ_=>?_⟩;simp only[jq];refine jW [13] ?_;refine jC 13 (.call { callee:=.value (.func 232),args:=#[.tmp 36,.tmp 38,.tmp 41],argTypes:=#[195,195,3] }) (some 42) 232 #[.agg (u8s L[k]).toArray,.agg (u8s dat).toArray,.int .i64 c] ?_ jN;refine(e3 _).mono ?_;rintro e I ⟨rfl,a3⟩;obtain⟨a5,D,J,a4⟩:=b2.out I (aB R a3);refine⟨_,rfl,a0 _ _ O a3,λa2=>?_⟩;simp only[jq];refine jT 14 (.indexAddr 84 (.tmp 29) (.tmp 31)) (some 43) (.pointer (some ⟨K,k*64,none⟩)) a2 ?_;simp only[jq];refine jW [15] ?_;refine jR 15 195 (.tmp 43) (.tmp 42) none (cs:=u8s (eM L[k] dat c)) a5 e5 (cI _) a4 ?_ jN;simp only[jq];refine wpAnyH_done (by kernel_rfl) ?_ _;have a1:=jz D;have V:=jz J;clear a5 D J a4 a2;go_wp2_with fail
    exact⟨⟨j+1,by omega,by go_num,a1,V⟩,by simp[intOf];omega⟩
   ·refine(c5 _ (aB Z R)).mono ?_;rintro e wM ⟨rfl,d4⟩;rw[d4];refine⟨_,rfl,O,λ_=>?_⟩;simp only[jq];refine jW [7] ?_;refine L8 7 195 (.tmp 35) (some 36) (cs:=u8s L[k]) (by kernel_rfl) (by kernel_rfl) (by exact rfl) (b9 _ R) underlying195 rfl e4 O ?_ jN;simp only[jq];refine jW [13] ?_;refine jC 13 (.call { callee:=.value (.func 232),args:=#[.tmp 36,.tmp 38,.tmp 41],argTypes:=#[195,195,3] }) (some 42) 232 #[.agg (u8s L[k]).toArray,.agg (u8s dat).toArray,.int .i64 c] ?_ jN;refine(e3 _).mono ?_;rintro e I ⟨rfl,a3⟩;obtain⟨a5,D,J,a4⟩:=b2.out I (aB R a3);refine⟨_,rfl,a0 _ _ O a3,λa2=>?_⟩;simp only[jq];refine jT 14 (.indexAddr 84 (.tmp 29) (.tmp 31)) (some 43) (.pointer (some ⟨K,k*64,none⟩)) a2 ?_;simp only[jq];refine jW [15] ?_;refine jR 15 195 (.tmp 43) (.tmp 42) none (cs:=u8s (eM L[k] dat c)) a5 e5 (cI _) a4 ?_ jN;simp only[jq];refine wpAnyH_done (by kernel_rfl) ?_ _;have a1:=jz D;have V:=jz J;clear a5 D J a4 a2;go_wp2_with fail
    exact⟨⟨j+1,by omega,by go_num,a1,V⟩,by simp[intOf];omega⟩
  ·obtain rfl:j=opn.length:=by omega
   have t1:decide ((opn.length:Int)<(opn.length:Int))=false:=by simp
   go_wp2_with fail
   go_ret;exact⟨_,rfl,HR,HB⟩
end
section
open Go.RowKit
attribute [local irreducible] wpQuiet wpAnyH
def kN(sec:List Wl)(opn:List (Int×Wl))(cl:Wl):List Wl:=fN (λj=>cl.getD j 0) sec opn opn.length
def qF(d:DiskD)(cl:Wl):DiskD:={ d with sec:=kN d.sec d.opn cl,opn:=[],down:=true }
def svM(m:DiskM)(v:Value):DiskM:={ m with sv:=v }
def EI(d:DiskD)(s:List Wl):DiskD:={ d with sec:=s }
theorem lM(sec:List Wl)(opn:List (Int×Wl))(cl:Wl):(kN sec opn cl).length=sec.length:=nG _ _ _ _
theorem EJ{sec:List Wl}{opn:List (Int×Wl)}(cl:Wl)(I:∀ s∈sec,Sec s)(D:∀ p∈opn,0<=p.1/\p.1<sec.length/\Sec p.2):∀ s∈kN sec opn cl,Sec s:=qE _ _ _ I D _ (ja _)
attribute [irreducible] kN
theorem JG(sec:List Wl)(opn:List (Int×Wl))(cl:Wl)(As Ao Ac:Option Addr)(cs co R:Nat)(w:Wd)
  (hs:Sn w 64 (.slice As sec.length cs) sec.length (sec.flatMap u8s)) (ho:Sn w 65 (.slice Ao opn.length co) opn.length (opn.flatMap wrC)) (Z:Sn w 1 (.slice Ac cl.length R) cl.length (yU cl))
  (K:∀ s∈sec,Sec s) (I:∀ p∈opn,0<=p.1/\p.1<sec.length/\Sec p.2) (h1:sec.length<=4096) (h2:opn.length<=100000) (h3:cl.length<=1000000):
  Wc 153 #[.slice As sec.length cs,.slice Ao opn.length co,.slice Ac cl.length R] w λe w'=>∃ v,e = .returned v/\w'.ownsRow w.heap.size 195 64 v sec.length ((kN sec opn cl).flatMap u8s)/\Bw w w':=by
 have hb:Bw w (w.alloc (.cells #[.slice Ac cl.length R] 66)):=(ji _ _).alloc (ja _) _;have V:=Blk.new w 66 #[.slice Ac cl.length R];have U:=jz (MA sec opn As Ao cs co w.heap.size (λj=>cl.getD j 0) _ (hs.below hb) (ho.below hb) K I h1 h2 (λj w1 hj D=>EH j w.heap.size cl Ac R w1 ((V.keep D).cell 0) ((Z.below hb).below D) (by omega) h3));have O:=jz hb;have HE:Hid (kN sec opn cl=fN (λj=>cl.getD j 0) sec opn opn.length):=jz (by unfold kN;rfl);clear hs ho Z K I hb V;have a0:∀(fn:Fn) (first cap:Wa) (w:Wd),(Instr.makeFunc fn first cap).run prog w = .ok (.func fn first cap) w:=λ_ _ _ _=>rfl
 go_enter func153,ntmps153
 go_wp2_with (go_at_call 200;refine U.mono ?_;rintro e w1 ⟨v,rfl,J,D⟩;have HO:=jz J;have HB:=jz D;clear J D)
 go_ret;exact⟨_,rfl,by rw[HE.out];exact aT HO O.size,O.trans (HB.mono O.size)⟩
theorem BJ{m:DiskM}{v:Value}{w:Wd}(I:∀ b,v.ownBlock=some b->w.heap.size<=b):∀ k∈aZ (svM m v),k∈aZ m\/w.heap.size<=k:=by
 intro k D;simp only[aZ,svM,ju,Option.mem_toList] at D ⊢;rcases D with h|h|h
 ·exact .inl (.inl h)
 ·exact .inr (I k h)
 ·exact .inl (.inr (.inr h))
theorem VZ{m:DiskM}{v:Value}{B:Nat}(h:(aZ m).Nodup)(K:∀ k∈aZ m,k<B)(U:∀ b,v.ownBlock=some b->B<=b):(aZ (svM m v)).Nodup:=by
 have O:aZ m=[m.g,m.bl,m.bf,m.bc]++(m.sv.ownBlock.toList++m.ov.ownBlock.toList):=rfl;have D:([m.g,m.bl,m.bf,m.bc]++m.ov.ownBlock.toList).Nodup:=by
  refine List.Nodup.sublist ?_ h;rw[O];exact List.Sublist.append (List.Sublist.refl _) (List.sublist_append_right _ _)
 show([m.g,m.bl,m.bf,m.bc]++(v.ownBlock.toList++m.ov.ownBlock.toList)).Nodup;cases hvb:v.ownBlock with
 | none=>simpa using D
 | some q=>
  have V:=U q hvb;have J:∀ x∈[m.g,m.bl,m.bf,m.bc]++m.ov.ownBlock.toList,x<B:=λx I=>K x (by
   rw[O]
   rw[ju] at I ⊢
   rcases I with I|I
   ·exact .inl I
   ·exact .inr (List.mem_append_right _ I))
  have R:List.Perm ([m.g,m.bl,m.bf,m.bc]++((some q).toList++m.ov.ownBlock.toList)) (q :: ([m.g,m.bl,m.bf,m.bc]++m.ov.ownBlock.toList)):=by
   show List.Perm ([m.g,m.bl,m.bf,m.bc]++(q :: m.ov.ownBlock.toList)) _;exact List.perm_middle
  rw[R.nodup_iff,List.nodup_cons];exact⟨λI=>by have:=J q I;omega,D⟩
theorem DK.withSec{w I:Wd}{m:DiskM}{d:DiskD}(h:DK w m d){v:Value}{s:List Wl}(hb:Bw w I)(K:I.ownsRow w.heap.size 195 64 v s.length (s.flatMap u8s))(V:s.length=d.sec.length)(hs:∀ x∈s,Sec x):
  DK (I.setCell ⟨m.g,0,none⟩ v) (svM m v) (EI d s)/\DT w m (I.setCell ⟨m.g,0,none⟩ v) (svM m v):=by
 have O:=nE h.nd;have J:∀ b,v.ownBlock=some b->w.heap.size<=b:=λb hb=>(K.lt b hb).1
 have b5:∀ k,k≠m.g->(I.setCell ⟨m.g,0,none⟩ v).heap[k]? = I.heap[k]?:=λk D=>Below.heap_setCell I ⟨m.g,0,none⟩ v k D
 have R:∀ k,k<w.heap.size->k≠m.g->(I.setCell ⟨m.g,0,none⟩ v).heap[k]? = w.heap[k]?:=λk D hg=>(b5 k hg).trans (hb.block k D)
 have a0:(I.setCell ⟨m.g,0,none⟩ v).heap.size=I.heap.size:=by simp
 have Z:=hb.size;refine⟨h.re rfl [m.g] (λk D=>by rw[List.mem_singleton] at D;rw[D];exact iB m) (λk D O=>R k D (by simpa using O)) (by omega) (Blk.set_ ((hb.block m.g h.blk.lt).trans h.blk) 0 v) ?_ (aS h.opn λb U=>R b (h.opn.lt b U).2 (O.2.2.2.2.2.2.2.1 b U).1) (h.last.of_block (R _ h.last.lt (λe=>O.1 e.symm))) (h.fl.of_block (R _ h.fl.lt (λe=>O.2.1 e.symm))) (h.cr.of_block (R _ h.cr.lt (λe=>O.2.2.1 e.symm))) (VZ h.nd h.foot_lt J) (BJ J) h.flv (λk D=>.inr ⟨rfl,rfl⟩) ⟨hs,λp hp=>?_,?_,h.ok.lo,h.ok.st,h.ok.rm,h.ok.cl⟩,⟨rfl,⟨hb.os,hb.tape,hb.output,by omega,λk D hm=>R k D (λe=>hm (by rw[e];exact iB m))⟩,BJ J,λ_ _ h=>.inl h⟩⟩
 ·exact aS (aT K (j0 _)) (λb U=>b5 b (λe=>by have h1:=J b U;have h2:=h.blk.lt;omega))
 ·have h1:=h.ok.opn p hp;exact⟨h1.1,by show p.1<(s.length:Int);rw[V];exact h1.2.1,h1.2.2⟩
 ·show s.length<=4096;rw[V];exact h.ok.few
theorem uA(cl:Wl)(Ac:Option Addr)(cc:Nat)(w:Wd)(m:DiskM)(d:DiskD)(h:DK w m d)(hc:Sn w 1 (.slice Ac cl.length cc) cl.length (yU cl))(c9:cl.length<=1000000):
  Wc 103 #[.pointer (some ⟨m.g,0,none⟩),.slice Ac cl.length cc] w λe w'=>e = .returned (.tuple #[])/\∃ m',DK w' m' (qF d cl)/\DT w m w' m':=by
 have H:=jz h;have d1:=h.blk.lt;obtain⟨As,cs,a5,_⟩:=Sn.own h.sec;obtain⟨Ao,co,a3,_⟩:=Sn.own h.opn;have a4:=Sn.own h.sec;have a2:=Sn.own h.opn;have c2:=h.sec;rw[a5] at a4 c2;rw[a3] at a2;have c6:=jz (fun(w1:Wd) (hb:Bw w w1)=>JG d.sec d.opn cl As Ao Ac cs co cc w1 (a4.below hb) (a2.below hb) (hc.below hb) h.ok.sec h.ok.opn h.ok.few (jm h.ok.lo h.ok.rm) c9);have O:=jz (lM d.sec d.opn cl);have b1:=jz (EJ cl h.ok.sec h.ok.opn);have HC:Hid (∀ W:Wd,W.heap[m.g]? = w.heap[m.g]?->W.cell? ⟨m.g,0,none⟩=some (.slice As d.sec.length cs)/\W.cell? ⟨m.g,1,none⟩=some (.slice Ao d.opn.length co)/\W.frozen? ⟨m.g,0,none⟩=false):=jz (λW hW=>by
  have hB:Blk W m.g 90 (eX m d):=hW.trans h.blk
  exact⟨by rw[<- a5];exact hB.cell 0,by rw[<- a3];exact hB.cell 1,hB.frozen 0⟩)
 clear a4 a2 c2 h hc a5 a3;have b0:Hid (w.drew.cell? ⟨m.g,1,none⟩=some (.slice Ao d.opn.length co)):=jz (HC w.drew rfl).2.1;have c5:Hid (w.drew.cell? ⟨m.g,0,none⟩=some (.slice As d.sec.length cs)):=jz (HC w.drew rfl).1;go_enter func103,ntmps103
 go_wp2_with fail
 refine cC 14 (λwz=>wz.cell? ⟨m.g,1,none⟩=some (.slice Ao d.opn.length co)) (by kernel_rfl) (by kernel_rfl) (b0) (λJ=>?_);refine jM 0 (.tmp 0) (some 6) (.pointer (some ⟨m.g,0,none⟩)) J ?_;simp only[jq];refine jM 1 (.tmp 0) (some 7) (.pointer (some ⟨m.g,0,none⟩)) J ?_;simp only[jq];refine jT 2 (.nilCheck (.tmp 7)) (some 8) (.pointer (some ⟨m.g,0,none⟩)) J ?_;simp only[jq];refine jT 3 (.fieldAddr 90 (.tmp 8) 0) (some 9) (.pointer (some ⟨m.g,0,none⟩)) J ?_;simp only[jq];refine jM 5 (.tmp 0) (some 11) (.pointer (some ⟨m.g,0,none⟩)) J ?_;simp only[jq];refine jT 6 (.nilCheck (.tmp 11)) (some 12) (.pointer (some ⟨m.g,0,none⟩)) J ?_;simp only[jq];refine jT 7 (.fieldAddr 90 (.tmp 12) 1) (some 13) (.pointer (some ⟨m.g,1,none⟩)) J ?_;simp only[jq];refine jT 8 (.load 88 (.tmp 13)) (some 14) (.slice Ao d.opn.length co) (hy:=λo ho wX hX=>by have a1:=hX;unfold execOp;simp only[ho];go_simp) J ?_;simp only[jq];refine jM 9 (.tmp 1) (some 15) (.slice Ac cl.length cc) J ?_;simp only[jq];refine jW [4] ?_;refine jS 4 (.load 84 (.tmp 9)) (some 10) (.slice As d.sec.length cs) w.drew (hrun:=λo ho=>by have a1:=c5.out;unfold execOp;simp only[ho];go_simp) b0 ?_ jN;simp only[jq];refine jW [10] ?_;refine jC 10 (.call { callee:=.value (.func 153),args:=#[.tmp 10,.tmp 14,.tmp 15],argTypes:=#[84,88,66] }) (some 16) 153 #[.slice As d.sec.length cs,.slice Ao d.opn.length co,.slice Ac cl.length cc] ?_ jN;refine(c6 _ (ji _ _).drew).mono ?_;rintro e w4 ⟨v4,rfl,D,b2⟩;have V:Bw w w4:=(ji w.heap.size w).drew.trans b2;obtain⟨A4,c4,d2,_,_⟩:=bN D;subst d2;have D:w4.ownsRow w.heap.size 195 64 (.slice A4 d.sec.length c4) (kN d.sec d.opn cl).length ((kN d.sec d.opn cl).flatMap u8s):=by rw[O.out];exact D
 obtain⟨b3,b7⟩:=H.out.withSec V D O b1.out;obtain⟨c7,Z,d0⟩:=HC.out w4 (V.block m.g d1);refine⟨_,rfl,Z,λU=>?_⟩;simp only[jq];refine jT 11 (.nilCheck (.tmp 6)) (some 17) (.pointer (some ⟨m.g,0,none⟩)) U ?_;simp only[jq];refine jT 12 (.fieldAddr 90 (.tmp 17) 0) (some 18) (.pointer (some ⟨m.g,0,none⟩)) U ?_;simp only[jq];refine jW [13] ?_;refine yW 13 (Op.store 84 (Operand.tmp 18) (Operand.tmp 16)) none (w4.setCell ⟨m.g,0,none⟩ (.slice A4 d.sec.length c4)) (by kernel_rfl) (by kernel_rfl) (λo ho=>by unfold execOp;simp only[ho];go_simp) (by simp[go_sem,Z,World.cell?_setCell_other]) ?_ jN;simp only[jq];refine wpAnyH_done (by kernel_rfl) ?_ _;have a7:=jz b3;have a8:=jz b7;clear D b2 V b3 b7 c7 Z d0 U;obtain⟨w5,c3⟩:=je (w4.setCell ⟨m.g,0,none⟩ (.slice A4 d.sec.length c4));rw[<- c3] at a7 a8 ⊢;clear c3;have a6:=jz (tY w5 _ _ a7);go_wp2_with (go_at_call 104;refine a6.mono ?_;rintro e w6 ⟨rfl,I,R⟩;have K:=jz (I.down true);have a9:=jz R;have a0:=I.blk.cell 3;have b9:=I.blk.frozen 3;simp only[eX,jf,jh,jg] at a0;have a0:w6.cell? ⟨m.g,3,none⟩=some (.bool d.down):=a0;have b9:w6.frozen? ⟨m.g,3,none⟩=false:=b9;clear I R)
 exact bodyPost_end (results_none rfl _ _ _) rfl ⟨rfl,_,K.out.1,a8.trans (a9.trans K.out.2)⟩
def iT(d:DiskD)(a:Int)(s:Wl):DiskD:=if iR d a then BC d a s else d
def bH(d:DiskD)(a:Int)(s:Wl):DiskD:=
 if d.down then d else if iJ d=2 then qF (iT (aW d) a s) (eL d) else if iJ d=1 then aW d else iT (aW d) a s
def gD(d:DiskD)(a:Int):Value:=
 if d.down then jJ 12 else if iJ d=2 then jJ 12 else if iJ d=1 then jJ 11 else if iR d a then .nilIface else tS 15 a
theorem uB(d:DiskD):iJ d=2\/iJ d=1\/iJ d=0:=by
 unfold iJ;cases (d.cr ((d.steps+1:Nat):Int)).isSome <;> cases d.fl ((d.steps+1:Nat):Int) <;> simp
theorem iL(d:DiskD)(a:Int):iR (aW d) a=iR d a:=rfl
theorem EK(d:DiskD)(a:Int)(s:Wl):(iT d a s).room<=d.room+1:=by unfold iT;split <;> simp[BC]
theorem xN{d:DiskD}(h:DOk d):(eL d).length<=1000000:=by
 unfold eL;cases hc:d.cr ((d.steps+1:Nat):Int) with
 | none=>simp
 | some cs=>exact h.cl _ cs hc
theorem DT.off{w w':Wd}{m m':DiskM}(h:DT w m w' m'){b:Nat}(hb:b<w.heap.size)(D:b ∉ aZ m):w'.heap[b]? = w.heap[b]?:=h.fo.block b hb D
theorem DK.notFoot{w:Wd}{m:DiskM}{d:DiskD}(h:DK w m d){b:Nat}(hb:w.heap.size<=b):b ∉ aZ m:=λD=>by have:=h.foot_lt b D;omega
theorem oA(a:Int)(s:Wl)(w:Wd)(m:DiskM)(d:DiskD)(h:DK w m d)(ha:aI a)(hs:Sec s)(hr:d.room+2<=100000):
  Wc 108 #[.pointer (some ⟨m.g,0,none⟩),.int .i64 a,.agg (u8s s).toArray] w λe w'=>e = .returned (gD d a)/\∃ m',DK w' m' (bH d a s)/\DT w m w' m':=by
 have c9:=h.blk.lt;have H:=jz h;have Z:Bw w (w.alloc (.cells (u8s s).toArray 195)):=(ji _ _).alloc (ja _) _;have a3:=jz Z;have a8:(w.alloc (.cells (u8s s).toArray 195)).cell? ⟨m.g,3,none⟩=some (.bool d.down):=(h.keep Z).blk.cell 3;have d1:=h.ok.st;have a6:=jz (h.keep Z);have a4:Hid (Blk (w.alloc (.cells (u8s s).toArray 195)) w.heap.size 195 (u8s s).toArray):=jz (Blk.new w _ _);have c5:=jz hs;have b9:=jz ha;have a1:Hid ((prog.info? 195).map (·.size)=some (u8s s).length):=jz (by rw[aH hs];kernel_rfl);clear h Z hs ha;cases hd:d.down with
 | true=>
  rw[hd] at a8;have I:Hid (gD d a=jJ 12/\bH d a s=d):=jz (by unfold gD bH;rw[hd];exact⟨rfl,rfl⟩);clear hd;go_enter func108,ntmps108
  go_wp2_with fail
  go_ret;exact⟨by rw[I.out.1];rfl,m,by rw[I.out.2];exact a6,DT.of_below a3⟩
 | false=>
  rw[hd] at a8;obtain⟨w0,b2⟩:=je (w.alloc (.cells (u8s s).toArray 195));have c7:Hid (w.alloc (.cells (u8s s).toArray 195)=w0):=jz b2.symm;have a0:=jz (xL _ m d a6 (by omega));have c4:Hid (w.heap.size ∉ aZ m):=jz (H.out.notFoot (ja _));have b1:w.heap.size<(w.alloc (.cells (u8s s).toArray 195)).heap.size:=by simp
  have c6:=jz b1;clear b1;have a5:=jz (xN H.out.ok);clear b2;have D:Hid (Wc 102 #[.pointer (some ⟨m.g,0,none⟩)] (w.alloc (.cells (u8s s).toArray 195)) λe w'=>∃ A c,e = .returned (.tuple #[.int .i64 (iJ d),.slice A (eL d).length c])/\Sn w' 1 (.slice A (eL d).length c) (eL d).length (yU (eL d))/\(∀ b,(Value.slice A (eL d).length c).ownBlock=some b->b ∉ aZ m/\b<w'.heap.size)/\DK w' (fZ m d) (aW d)/\DT w m w' (fZ m d)/\Blk w' w.heap.size 195 (u8s s).toArray):=jz (a0.mono (by
   rintro e w' ⟨v,rfl,h1,U,K,J⟩
   obtain⟨A,c,rfl,_⟩:=id h1
   exact⟨A,c,rfl,h1,U,K,(DT.of_below a3).trans J,(J.off c6 c4).trans a4⟩))
  clear a0 c7;have d0:(aW d).room<=d.room+1:=by show max d.room (d.steps+1)<=d.room+1;omega
  have HADD:=jz (fun(w1:Wd) (hk:DK w1 (fZ m d) (aW d))=>L2 a s w1 (fZ m d) (aW d) hk b9 c5 (by omega));rw[iL] at HADD;rcases uB d with O|O|O
  ·have I:Hid (gD d a=jJ 12/\bH d a s=qF (iT (aW d) a s) (eL d)):=jz (by unfold gD bH;rw[hd,O];exact⟨rfl,rfl⟩);rw[O] at D;have a2:Hid ((if iR d a then BC (aW d) a s else aW d)=iT (aW d) a s):=jz (by unfold iT;rw[iL]);rw[a2.out] at HADD;clear hd O;obtain⟨cl,a9⟩:=je (eL d);rw[<- a9] at D I a5;clear a9 a2;go_enter func108,ntmps108
   go_wp2_with (first
    | (go_at_call 102;refine D.mono ?_;rintro e w1 ⟨A,c,rfl,h1,U,K,J,V⟩;have H1:=jz h1;have H2:=jz U;have H3:=jz K;have H4:=jz J;have R:Hid (w1.rangeAt w.heap.size 0 (u8s s)):=jz (by have h:=V.range;rw[jt] at h;exact h);clear h1 U K J V)
    | (refine ld 195 _ rfl rfl rfl R underlying195 rfl a1 ?_)
    | (go_at_call 159;refine(HADD w1 H3).mono ?_;rintro e w2 ⟨rfl,m2,h6,h7⟩;have H6:=jz h6;have H7:=jz h7;have H8:=jz (h7.fo.sn H1 (λb hb=>(H2 b hb).1));have b0:m2.g=m.g:=h7.g;have c3:=jz b0;clear h6 h7 b0)
    | (go_at_call 103;rw[<- c3.out];refine(uA cl A c w2 m2 _ H6 H8 a5).mono ?_;rintro e w3 ⟨rfl,m3,h9,a7⟩;have H9:=jz h9;have b7:=jz a7;clear h9 a7))
   go_ret;exact⟨by rw[I.out.1];rfl,m3,by rw[I.out.2];exact H9,H4.out.trans (H7.out.trans b7)⟩
  ·have I:Hid (gD d a=jJ 11/\bH d a s=aW d):=jz (by unfold gD bH;rw[hd,O];exact⟨rfl,rfl⟩);rw[O] at D;clear hd O;go_enter func108,ntmps108
   go_wp2_with (go_at_call 102;refine D.mono ?_;rintro e w1 ⟨A,c,rfl,h1,U,K,J,V⟩;have H3:=jz K;have H4:=jz J;clear h1 U K J V)
   go_ret;exact⟨by rw[I.out.1];rfl,_,by rw[I.out.2];exact H3,H4⟩
  ·rw[O] at D;have c2:=jz (λw1=>rK a w1);cases hh:iR d a with
   | true=>
    have I:Hid (gD d a = .nilIface/\bH d a s=BC (aW d) a s):=jz (by unfold gD bH iT;rw[hd,O,iL,hh];exact⟨rfl,rfl⟩);rw[hh] at HADD;have HADD:Hid (∀ w1,DK w1 (fZ m d) (aW d)->Wc 159 #[.pointer (some ⟨(fZ m d).g,0,none⟩),.int .i64 a,.agg (u8s s).toArray] w1 λe w'=>e = .returned (.bool true)/\∃ m',DK w' m' (BC (aW d) a s)/\DT w1 (fZ m d) w' m'):=HADD;clear hd O hh;go_enter func108,ntmps108
    go_wp2_with (first
     | (go_at_call 102;refine D.mono ?_;rintro e w1 ⟨A,c,rfl,h1,U,K,J,V⟩;have H3:=jz K;have H4:=jz J;have R:Hid (w1.rangeAt w.heap.size 0 (u8s s)):=jz (by have h:=V.range;rw[jt] at h;exact h);clear h1 U K J V)
     | (refine ld 195 _ rfl rfl rfl R underlying195 rfl a1 ?_)
     | (go_at_call 159;refine(HADD w1 H3).mono ?_;rintro e w2 ⟨rfl,m2,h6,h7⟩;have H6:=jz h6;have H7:=jz h7;clear h6 h7))
    go_ret;exact⟨by rw[I.out.1];rfl,m2,by rw[I.out.2];exact H6,H4.out.trans H7⟩
   | false=>
    have I:Hid (gD d a=tS 15 a/\bH d a s=aW d):=jz (by unfold gD bH iT;rw[hd,O,iL,hh];exact⟨rfl,rfl⟩);rw[hh] at HADD;have HADD:Hid (∀ w1,DK w1 (fZ m d) (aW d)->Wc 159 #[.pointer (some ⟨(fZ m d).g,0,none⟩),.int .i64 a,.agg (u8s s).toArray] w1 λe w'=>e = .returned (.bool false)/\∃ m',DK w' m' (aW d)/\DT w1 (fZ m d) w' m'):=HADD;clear hd O hh;go_enter func108,ntmps108
    go_wp2_with (first
     | (go_at_call 102;refine D.mono ?_;rintro e w1 ⟨A,c,rfl,h1,U,K,J,V⟩;have H3:=jz K;have H4:=jz J;have R:Hid (w1.rangeAt w.heap.size 0 (u8s s)):=jz (by have h:=V.range;rw[jt] at h;exact h);clear h1 U K J V)
     | (refine ld 195 _ rfl rfl rfl R underlying195 rfl a1 ?_)
     | (go_at_call 159;refine(HADD w1 H3).mono ?_;rintro e w2 ⟨rfl,m2,h6,h7⟩;have H6:=jz h6;have H7:=jz h7;clear h6 h7)
     | (go_at_call 155;refine(c2 _).mono ?_;rintro e w3 ⟨rfl,b3⟩;rw[b3];clear b3))
    go_ret;exact⟨by rw[I.out.1];rfl,m2,by rw[I.out.2];exact H6,H4.out.trans H7⟩
def k8(r:List Wl)(l:List (Int×Wl)):Nat->List Wl
 | 0=>r
 | j+1=>(k8 r l j).set (l.getD j (0,[])).1.toNat (l.getD j (0,[])).2
theorem nH(r:List Wl)(l:List (Int×Wl)):∀ j,(k8 r l j).length=r.length
 | 0=>rfl
 | j+1=>by unfold k8;rw[List.length_set,nH r l j]
def MB(d:DiskD):DiskD:={ d with sec:=k8 d.sec d.opn d.opn.length,opn:=[] }
def cJ(d:DiskD):DiskD:=if d.down then d else if iJ d=2 then qF (aW d) (eL d) else if iJ d=1 then aW d else MB (aW d)
def mN(d:DiskD):Value:=if d.down then jJ 12 else if iJ d=2 then jJ 12 else if iJ d=1 then jJ 11 else .nilIface
def SBG(g gs n cs b:Nat)(p:Int×Wl)(w:Wd):Prop:=w.rangeAt b 0 (wrC p)/\w.cell? ⟨g,0,none⟩=some (.slice (some ⟨gs,0,none⟩) n cs)
theorem DK.setSec{w:Wd}{m:DiskM}{d:DiskD}(h:DK w m d){gs cap:Nat}(R:m.sv = .slice (some ⟨gs,0,none⟩) d.sec.length cap)(k:Nat)(U:k<d.sec.length)(s:Wl)(hs:Sec s):
  DK (w.setCells gs (k*64) (u8s s)) m (EI d (d.sec.set k s))/\DT w m (w.setCells gs (k*64) (u8s s)) m/\w.there gs (k*64) (u8s s).length:=by
 have O:=nE h.nd;have D:m.sv.ownBlock=some gs:=by rw[R];rfl
 have hg:=O.2.2.2.2.2.2.1 gs D;have I:=h.sec;rw[R] at I;obtain⟨V,q2,_⟩:=GQ u8s Sec 64 (λr h=>aH h) I h.ok.sec k U s hs;rw[List.length_set] at V;have K:∀ b,b≠gs->(w.setCells gs (k*64) (u8s s)).heap[b]? = w.heap[b]?:=λb hb=>bF hb _ _ _
 have a0:=(aU (b:=gs) (B:=0) (j0 _) (u8s s) (k*64) w).2;have J:=(aU (b:=gs) (B:=0) (j0 _) (u8s s) (k*64) w).1;refine⟨h.re rfl [gs] (λb hb=>by rw[List.mem_singleton] at hb;rw[hb];exact oY D) (λb _ hb=>K b (by simpa using hb)) (by omega) ((K m.g (λe=>hg.1 e.symm)).trans h.blk) ?_ (aS h.opn λb hx=>K b (λe=>O.2.2.2.2.2.2.2.2 gs D (e ▸ hx))) (h.last.of_block (K _ (λe=>hg.2.1 e.symm))) (h.fl.of_block (K _ (λe=>hg.2.2.1 e.symm))) (h.cr.of_block (K _ (λe=>hg.2.2.2 e.symm))) h.nd (λb hb=>.inl hb) h.flv (λk U=>.inr ⟨rfl,rfl⟩) ⟨λx hx=>?_,λp Z=>?_,?_,h.ok.lo,h.ok.st,h.ok.rm,h.ok.cl⟩,⟨rfl,⟨J.os,J.tape,J.output,by omega,λb _ O=>K b (λe=>O (by rw[e];exact oY D))⟩,λb hb=>.inl hb,λ_ _ h=>.inl h⟩,q2⟩
 ·show(w.setCells gs (k*64) (u8s s)).ownsRow 0 _ 64 m.sv (d.sec.set k s).length ((d.sec.set k s).flatMap u8s);rw[R,List.length_set];exact V
 ·have hx:x∈d.sec.set k s:=hx;rcases List.mem_or_eq_of_mem_set hx with h1|h1
  ·exact h.ok.sec x h1
  ·rw[h1];exact hs
 ·have h1:=h.ok.opn p Z;exact⟨h1.1,by show p.1<((d.sec.set k s).length:Int);rw[List.length_set];exact h1.2.1,h1.2.2⟩
 ·show(d.sec.set k s).length<=4096;rw[List.length_set];exact h.ok.few
theorem nI(w:Wd)(m:DiskM)(d:DiskD)(h:DK w m d)(hr:d.room+1<=100000):
  Wc 66 #[.pointer (some ⟨m.g,0,none⟩)] w λe w'=>e = .returned (mN d)/\∃ m',DK w' m' (cJ d)/\DT w m w' m':=by
 have h7:=h.blk.lt;have H:=jz h;have b7:w.cell? ⟨m.g,3,none⟩=some (.bool d.down):=h.blk.cell 3;have k5:=h.ok.st;clear h;cases hd:d.down with
 | true=>
  rw[hd] at b7;have O:Hid (mN d=jJ 12/\cJ d=d):=jz (by unfold mN cJ;rw[hd];exact⟨rfl,rfl⟩);clear hd;go_enter func66,ntmps66
  go_wp2_with fail
  go_ret;exact⟨by rw[O.out.1];rfl,m,by rw[O.out.2];exact H,DT.refl⟩
 | false=>
  rw[hd] at b7;have a4:=jz (xL _ m d H (by omega));have d0:=jz (xN H.out.ok);have D:Hid (Wc 102 #[.pointer (some ⟨m.g,0,none⟩)] w λe w'=>∃ A c,e = .returned (.tuple #[.int .i64 (iJ d),.slice A (eL d).length c])/\Sn w' 1 (.slice A (eL d).length c) (eL d).length (yU (eL d))/\DK w' (fZ m d) (aW d)/\DT w m w' (fZ m d)):=jz (a4.mono (by
   rintro e w' ⟨v,rfl,h1,h2,V,Z⟩
   obtain⟨A,c,rfl,_⟩:=id h1
   exact⟨A,c,rfl,h1,V,Z⟩))
  clear a4;rcases uB d with K|K|K
  ·have O:Hid (mN d=jJ 12/\cJ d=qF (aW d) (eL d)):=jz (by unfold mN cJ;rw[hd,K];exact⟨rfl,rfl⟩);rw[K] at D;clear hd K;obtain⟨cl,e4⟩:=je (eL d);rw[<- e4] at D O d0;clear e4;go_enter func66,ntmps66
   go_wp2_with (first
    | (go_at_call 102;refine D.mono ?_;rintro e w1 ⟨A,c,rfl,h1,V,Z⟩;have H1:=jz h1;have J:=jz V;have H4:=jz Z;clear h1 V Z)
    | (go_at_call 103;refine(uA cl A c w1 (fZ m d) _ J H1 d0).mono ?_;rintro e w3 ⟨rfl,m3,h9,e2⟩;have H9:=jz h9;have f1:=jz e2;clear h9 e2))
   go_ret;exact⟨by rw[O.out.1];rfl,m3,by rw[O.out.2];exact H9,H4.out.trans f1⟩
  ·have O:Hid (mN d=jJ 11/\cJ d=aW d):=jz (by unfold mN cJ;rw[hd,K];exact⟨rfl,rfl⟩);rw[K] at D;clear hd K;go_enter func66,ntmps66
   go_wp2_with (go_at_call 102;refine D.mono ?_;rintro e w1 ⟨A,c,rfl,h1,V,Z⟩;have J:=jz V;have H4:=jz Z;clear h1 V Z)
   go_ret;exact⟨by rw[O.out.1];rfl,_,by rw[O.out.2];exact J,H4⟩
  ·have O:Hid (mN d = .nilIface/\cJ d=MB (aW d)):=jz (by unfold mN cJ;rw[hd,K];exact⟨rfl,rfl⟩);rw[K] at D;clear hd K;go_enter func66,ntmps66
   go_upto_region 10 with (go_at_call 102;refine D.mono ?_;rintro e w1 ⟨A,c,rfl,h1,V,Z⟩;have J:=jz V;have H4:=jz Z;clear h1 V Z)
   obtain⟨d1,e5⟩:=je (aW d);obtain⟨m1,c3⟩:=je (fZ m d);rw[<- e5] at J O;rw[<- c3] at J H4;have c4:m1.g=m.g:=by rw[c3];rfl
   have b2:=jz c4;obtain⟨Ao,co,c5,_⟩:=Sn.own J.out.opn;obtain⟨As,cs,e7,_⟩:=Sn.own J.out.sec;have f5:=jz c5;have R:=jz e7;have g1:w1.cell? ⟨m.g,1,none⟩=some (.slice Ao d1.opn.length co):=by rw[<- c5,<- c4];exact J.out.blk.cell 1
   have k3:d1.opn.length<=100000:=jm J.out.ok.lo J.out.ok.rm;have k4:d1.sec.length<=4096:=J.out.ok.few;have f3:Hid (DK w1 m1 (EI d1 (k8 d1.sec d1.opn 0))):=jz J.out;have d5:=jz J.out.ok.opn;clear e5 c3 c4 c5 e7 b7;go_wp2_with fail
   clear g1;go_loopw [36] (λi wr=>∃ j:Nat,j<=d1.opn.length/\i = .int .i64 (j:Int)/\Hid (DK wr m1 (EI d1 (k8 d1.sec d1.opn j)))/\Hid (DT w m wr m1)) (λi _=>d1.opn.length-(intOf i).toNat)
   case atStart=>exact⟨0,j0 _,rfl,f3,H4⟩
   case round=>
    obtain⟨j,hj,rfl,HR,HT⟩:=hrel;rcases jo j d1.opn.length with c2|h6
    ·have U:=Sn.own HR.opn;have U:Sn wr 65 m1.ov d1.opn.length (d1.opn.flatMap wrC):=U;rw[f5.out] at U;obtain⟨b1,o1,rfl,c6⟩:=LR U (λp hp=>(d5 p hp).2.2) j c2;have hp:=d5.out _ (List.getElem_mem c2);have f0:=nH d1.sec d1.opn j;have HTJ:Hid (k8 d1.sec d1.opn (j+1)=(k8 d1.sec d1.opn j).set d1.opn[j].1.toNat d1.opn[j].2):=jz (by
      show(k8 d1.sec d1.opn j).set (d1.opn.getD j (0,[])).1.toNat _=_
      rw[show d1.opn.getD j (0,[])=d1.opn[j] by simp[jn,c2]])
     obtain⟨L,hL⟩:=je (k8 d1.sec d1.opn j);obtain⟨⟨a,dat⟩,e6⟩:∃ p,p=d1.opn[j]:=⟨_,rfl⟩;rw[<- e6] at c6 hp HTJ;rw[<- hL] at HTJ f0 HR;clear e6 hL U;obtain⟨k,rfl⟩:=Int.eq_ofNat_of_zero_le hp.1;have g3:k<L.length:=by have:=hp.2.1;simp only at this;omega
     have k2:(k:Int)<(d1.sec.length:Int):=hp.2.1;obtain⟨I,g2⟩:∃ I,As=some ⟨I,0,none⟩:=by
      rcases J.out.sec.2 with ⟨_,h⟩|⟨g,cp,h5,hv,_⟩
      ·omega
      ·rw[R.out] at hv;injection hv with e1 _ _;exact⟨g,e1⟩
     subst g2;have a9:Hid (Sec dat):=jz hp.2.2;have HTJ:Hid (k8 d1.sec d1.opn (j+1)=L.set k dat):=HTJ;clear hp;have f6:=jz c6;clear c6;have a0:=fI (p:=((k:Int),dat)) a9.out;have g0:Hid ((prog.info? 197).map (·.size)=some (wrC ((k:Int),dat)).length):=jz (by rw[a0];kernel_rfl);have b3:Hid ((prog.info? 197).map (·.size)=some (wrC ((k:Int),dat)).toArray.size/\(wrC (0,List.replicate 64 0)).toArray.size=(wrC ((k:Int),dat)).toArray.size/\(wrC ((k:Int),dat)).toArray.all (·.oneCell')=true):=jz ⟨by rw[js,a0];kernel_rfl,by rw[js,js,a0];rfl,all_oneCell_toArray (sW _)⟩;clear a0;have e0:Hid ((prog.info? 195).map (·.size)=some (u8s dat).length):=jz (by rw[aH a9.out];kernel_rfl);have h8:(0:Int)<=j:=by omega
     have k0:(j:Int)<d1.opn.length:=by omega
     have k1:(0:Int)<=k:=by omega
     go_upto_region 13 with (first
      | (refine ld 197 _ rfl rfl rfl f6 underlying197 rfl g0 ?_)
      | (refine al 197 _ rfl rfl L9 ?_)
      | (refine bQ 197 (.tmp 6) (.tmp 39) rfl rfl (by rfl) (by rfl) b3.out.1 b3.out.2.1 b3.out.2.2 ?_;intro w2 hK e3 h0;have f4:=jz (show Blk w2 wr.heap.size 197 (wrC ((k:Int),dat)).toArray from hK);have c7:=jz e3;clear hK e3 h0))
     have c9:Hid (w2.rangeAt wr.heap.size 0 (wrC ((k:Int),dat))):=jz (by have h:=f4.range;rw[jt] at h;exact h);have a2:Hid (DK w2.drew m1 (EI d1 L)):=jz (HR.keep c7).drew;have f2:Hid (w2.drew.cell? ⟨m.g,0,none⟩=some (.slice (some ⟨I,0,none⟩) d1.sec.length cs)):=jz (by rw[<- R.out,<- b2.out];exact a2.blk.cell 0);have d7:Hid (m1.sv = .slice (some ⟨I,0,none⟩) (EI d1 L).sec.length cs):=jz (by rw[R.out];show _=Value.slice _ L.length cs;rw[f0]);obtain⟨a5,a7,e8⟩:=a2.setSec d7 k g3 dat a9.out;have a3:Hid (DK (w2.drew.setCells I (k*64) (u8s dat)) m1 (EI d1 (k8 d1.sec d1.opn (j+1)))):=jz (by rw[HTJ.out];exact a5);have d3:Hid (DT w m (w2.drew.setCells I (k*64) (u8s dat)) m1):=jz (HT.trans ((DT.of_below (c7.drew)).trans a7));have f9:=jz e8;have g8:I≠wr.heap.size:=λe=>by
      have h1:=HR.foot_lt I (oY (by rw[R.out];rfl));omega
     have f7:Hid (SBG m.g I d1.sec.length cs wr.heap.size ((k:Int),dat) w2.drew):=jz ⟨c9,f2⟩;have f8:Hid (SBG m.g I d1.sec.length cs wr.heap.size ((k:Int),dat) (w2.drew.setCells I (k*64) (u8s dat))):=jz ⟨λi u hi=>(World.cell?_of_block (a:=⟨wr.heap.size,0+i,none⟩) (bF (λe=>g8 e.symm) _ _ _)).trans (c9 i u hi),by rw[<- R.out,<- b2.out];exact a3.blk.cell 0⟩;have b0:Hid (∀ w4,SBG m.g I d1.sec.length cs wr.heap.size ((k:Int),dat) w4->w4.cell? ⟨wr.heap.size,0,none⟩=some (.int .i64 (k:Int))/\w4.rangeAt wr.heap.size 1 (u8s dat)/\w4.cell? ⟨m.g,0,none⟩=some (.slice (some ⟨I,0,none⟩) d1.sec.length cs)):=jz (λw4 h=>⟨h.1 0 _ rfl,λi u hi=>by have:=h.1 (i+1) u hi;rw[show 1+i=0+(i+1) by omega];exact this,h.2⟩);clear a5 a7 e8;refine cC 10 (SBG m.g I d1.sec.length cs wr.heap.size ((k:Int),dat)) (by kernel_rfl) (by kernel_rfl) (f7) (λhH=>?_);refine jM 0 (.tmp 0) (some 40) (.pointer (some ⟨m.g,0,none⟩)) hH ?_;simp only[jq];refine jT 1 (.nilCheck (.tmp 40)) (some 41) (.pointer (some ⟨m.g,0,none⟩)) hH ?_;simp only[jq];refine jT 2 (.fieldAddr 90 (.tmp 41) 0) (some 42) (.pointer (some ⟨m.g,0,none⟩)) hH ?_;simp only[jq];refine jT 3 (.load 84 (.tmp 42)) (some 43) (.slice (some ⟨I,0,none⟩) d1.sec.length cs) (hy:=λo K wX hX=>by have b9:=(b0.out wX hX).2.2;unfold execOp;simp only[K];go_simp) hH ?_;simp only[jq];refine jT 4 (.fieldAddr 197 (.tmp 6) 0) (some 44) (.pointer (some ⟨wr.heap.size,0,none⟩)) hH ?_;simp only[jq];refine jT 5 (.load 3 (.tmp 44)) (some 45) (.int .i64 (k:Int)) (hy:=λo K wX hX=>by have b9:=(b0.out wX hX).1;unfold execOp;simp only[K];go_simp) hH ?_;simp only[jq];refine jT 6 (.fieldAddr 197 (.tmp 6) 1) (some 46) (.pointer (some ⟨wr.heap.size,1,none⟩)) hH ?_;simp only[jq];refine jL 7 195 (.tmp 46) (some 47) (cs:=u8s dat) (λ_ hX=>(b0 _ hX).2.1) underlying195 rfl e0 hH ?_;simp only[jq];refine jT 8 (.indexAddr 84 (.tmp 43) (.tmp 45)) (some 48) (.pointer (some ⟨I,k*64,none⟩)) hH ?_;simp only[jq];refine jW [9] ?_;refine jR 9 195 (.tmp 48) (.tmp 47) none (cs:=u8s dat) f9 e0 (cI _) f8 ?_ jN;simp only[jq];refine wpAnyH_done (by kernel_rfl) ?_ _;clear hH;go_wp2_with fail
     exact⟨⟨j+1,by omega,by go_num,a3,d3⟩,by simp[intOf];omega⟩
    ·obtain rfl:j=d1.opn.length:=by omega
     have t1:decide ((d1.opn.length:Int)<(d1.opn.length:Int))=false:=by simp
     have a1:=jz (tY wr m1 _ HR);rw[b2.out] at a1;go_wp2_with (go_at_call 104;refine a1.mono ?_;rintro e w6 ⟨rfl,a6,a8⟩;have d2:=jz a6;have d4:=jz a8;clear a6 a8)
     go_ret;exact⟨by rw[O.out.1];rfl,_,by rw[O.out.2];exact d2,HT.trans d4⟩
end
end Go.Proofs.YtjjlaipkkdncfaaGreatDoor
