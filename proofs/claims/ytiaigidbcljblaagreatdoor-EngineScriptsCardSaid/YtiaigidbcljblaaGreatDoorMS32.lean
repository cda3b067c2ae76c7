import Derived.Laws.Shifts
import Derived.Test.YtiaigidbcljblaaGreatDoorMS29
import Derived.Lib.OthersKept
import Derived.Test.YtiaigidbcljblaaGreatDoorMS25
import Derived.Lib.LaidTab
import Derived.Test.YtiaigidbcljblaaGreatDoorMS26
set_option linter.unusedVariables false
set_option linter.unusedSimpArgs false
set_option maxRecDepth 100000
set_option maxHeartbeats 40000000
namespace Go.Proofs.YtiaigidbcljblaaGreatDoor
open Go.Proofs.Tryz
section
open Go.RowKit
attribute [local irreducible] wpQuiet wpAnyH
section
variable {P : Program}
end
theorem uD(s:Wl)(h:s.length=32):s=(List.range 32).map (λi=>s.getD i 0):=by
 apply List.ext_getElem
 ·simp[h]
 ·intro i h1 j;simp[h1]
theorem OJ(s:Wl)(t:Int)(h:s.length=32):prog.built 172 [(0,.agg (u8s s).toArray),(1,.int .i64 t)]=some (aO (s,t)).toArray:=by
 rw[uD s h];generalize (λi=>s.getD i 0)=D
 kernel_rfl
end
section
open Go.RowKit
attribute [local irreducible] wpQuiet wpAnyH
theorem OK(k:Int)(w:Wd):
  Wc 18 #[.int .i64 k] w λe w'=>e = .returned (.string (SBy (b8 k)))/\w'=w:=by
 by_cases h1:k=1
 ·subst h1;go_enter func18,ntmps18
  go_wp2_with fail
  go_ret;exact⟨rfl,rfl⟩
 by_cases h2:k=2
 ·subst h2;go_enter func18,ntmps18
  go_wp2_with fail
  go_ret;exact⟨rfl,rfl⟩
 by_cases h3:k=3
 ·subst h3;go_enter func18,ntmps18
  go_wp2_with fail
  go_ret;exact⟨rfl,rfl⟩
 by_cases h4:k=4
 ·subst h4;go_enter func18,ntmps18
  go_wp2_with fail
  go_ret;exact⟨rfl,rfl⟩
 by_cases h5:k=5
 ·subst h5;go_enter func18,ntmps18
  go_wp2_with fail
  go_ret;exact⟨rfl,rfl⟩
 by_cases h6:k=6
 ·subst h6;go_enter func18,ntmps18
  go_wp2_with fail
  go_ret;exact⟨rfl,rfl⟩
 have e:b8 k=[]:=by unfold b8;simp[h1,h2,h3,h4,h5,h6]
 rw[e];have j:(k == 1)=false:=beq_eq_false_iff_ne.2 h1;have x:(k == 2)=false:=beq_eq_false_iff_ne.2 h2;have D:(k == 3)=false:=beq_eq_false_iff_ne.2 h3;have I:(k == 4)=false:=beq_eq_false_iff_ne.2 h4;have J:(k == 5)=false:=beq_eq_false_iff_ne.2 h5;have K:(k == 6)=false:=beq_eq_false_iff_ne.2 h6;clear h1 h2 h3 h4 h5 h6 e;go_enter func18,ntmps18
 go_wp2_with fail
 go_ret;exact⟨rfl,rfl⟩
theorem FW(r:RowD):∀ u∈d8 r,u.oneCell'=true:=by
 intro u j;simp only[d8,jl] at j;rcases j with rfl|rfl|rfl|rfl|j
 ·rfl
 ·rfl
 ·rfl
 ·rfl
 ·exact bS _ u j
def rowZ:Wa:=(d8 ⟨0,0,0,0,List.replicate 32 0⟩).toArray
theorem WE:∀ w,(zeroValue 31).run prog w = .ok (.agg rowZ) w:=λw=>by unfold rowZ;kernel_rfl
theorem Z7{r:RowD}(h:RowOk r):(prog.info? 31).map (·.size)=some (d8 r).length:=by rw[oF h];kernel_rfl
theorem OL{r:RowD}(h:RowOk r):rowZ.size=(d8 r).toArray.size:=by unfold rowZ;rw[js,js,oF h];rfl
theorem SO{w:Wd}{base e s n:Nat}{v:Value}{K:Wv}{g t:Nat}{cs:Wa}(h:w.ownsRow base e s v n K)(x:Blk w g t cs)(j:t≠e):some g≠v.ownBlock:=by
 intro D;rcases h.2 with ⟨rfl,_⟩|⟨J,cap,I,rfl,_,hh,_⟩
 ·cases D
 ·have:g=J:=Option.some.inj D;subst this;unfold Blk at x;rw[x] at hh;injection hh with hh
  injection hh with _ h2 _
  exact j h2
structure TX(w W:Wd)(g:Nat)(r:RowD)(v:Value)(L:List UInt8):Prop where
 own:W.ownsRow w.heap.size 5 1 v L.length (Lib.byteCells L)
 bel:Bw w W
 blk:Blk W g 31 (d8 r).toArray
section
variable {w W W' : Wd} {g : Nat} {r : RowD} {v v' : Value} {L M : List UInt8}
theorem TX.step(h:TX w W g r v L)(j:W'.ownsRow w.heap.size 5 1 v' (L.length+M.length) (Lib.byteCells (L++M)))(hg:W.grownBy W' v.ownBlock):TX w W' g r v' (L++M):=
 ⟨by rw[jj];exact j,h.bel.grown hg h.bel.size (λb hb=>(h.own.lt b hb).1),(hg.block g h.blk.lt (SO h.own h.blk (by decide))).trans h.blk⟩
theorem TX.one(h:TX w W g r v L){o:Obj}(x:W'.ownsRow w.heap.size 5 1 v' (L.length+1) (Lib.byteCells (L++M)))(j:M.length=1)(hg:(W.alloc o).grownBy W' v.ownBlock):TX w W' g r v' (L++M):=by
 have k:TX w (W.alloc o) g r v L:=⟨h.own.alloc _,h.bel.alloc h.bel.size _,h.blk.alloc _⟩;exact k.step (by rw[j];exact x) hg
theorem TX.num(h:TX w W g r v L)(x:W'.ownsRow w.heap.size 5 1 v' (L.length+M.length) (Lib.byteCells L++Lib.byteCells M))(hb:Below w.heap.size W W')(j:Lib.OthersKept 5 none W W'):TX w W' g r v' (L++M):=
 ⟨by rw[jj,bB];exact x,h.bel.trans hb,j g _ h.blk (by simp) (λc D e=>by cases e)⟩
theorem TX.cells(h:TX w W g r v L):W.cell? ⟨g,0,none⟩=some (.int .i64 r.kind)/\W.cell? ⟨g,1,none⟩=some (.int .i64 r.code)/\W.cell? ⟨g,2,none⟩=some (.int .i64 r.now)/\W.cell? ⟨g,3,none⟩=some (.int .i64 r.live):=
 ⟨(h.blk.cell 0).trans rfl,(h.blk.cell 1).trans rfl,(h.blk.cell 2).trans rfl,(h.blk.cell 3).trans rfl⟩
end
theorem SP {w : Wd} (h : Tab w) : Lib.TabBelow prog w.heap.size w "internal/strconv.uint64pow10" .u64 Lib.pow10Tab := λ_ hb => h.below hb
theorem yD(s:ByteArray):Lib.strCells s=Lib.byteCells s.data.toList:=by simp[Lib.byteCells,Lib.strCells]
theorem Z8{ops:Array Oper}{rest:List Oper}{o:Oper}{a:Act}{w:Wd}{Q:Exit->Act->Wd->Prop}(sl x:Operand)
  (ho:o.op = .call { callee:=.builtin .append,args:=#[sl,x],argTypes:=#[68,9] }) (I:o.guard=none)
  {base n:Nat} {v:Value} {l:List UInt8} {s:ByteArray} (hs:a.eval sl=v) (D:w.ownsRow base 5 1 v n (Lib.byteCells l)) (hx:a.eval x = .string s)
  (J:n+s.size<=140737488355328) (j:base<=w.heap.size)
  (h:∀ v' w',w'.ownsRow base 5 1 v' (n+s.size) (Lib.byteCells (l++s.data.toList))->w.grownBy w' v.ownBlock->wpList prog ops Q rest (a.put o.dst v') w'):wpList prog ops Q (o :: rest) a w:=by
 have Z:(prog.info? 5).map (λi=>(i.zero,i.size,i.bytes))=some (some (.int .u8 0),1,1):=by kernel_rfl
 obtain⟨i,h1,O,R,U⟩:=info_parts Z;refine Lib.wpList_append_own_string w I sl x 68 9 ho base 5 i underlying68 underlying9 h1 O R U v n _ hs D s hx (by unfold maxLen;omega) J j ?_;intro v' w' K V _;rw[yD,<- bB] at K;exact h v' w' K V
theorem YZ{w:Wd}{A:Option Addr}{cap:Nat}{l:List RowD}(h:Sn w 36 (.slice A l.length cap) l.length (l.flatMap d8))(x:∀ r∈l,RowOk r)(k:Nat)(D:k<l.length):
  ∃ b off,A=some ⟨b,off,none⟩/\w.rangeAt b (off+k*36) (d8 l[k]):=by
 obtain⟨b,off,rfl,j⟩:=h.range k D;rw[lO d8 36 l (λr j=>oF (x r j)) k D] at j;exact⟨b,off,rfl,j⟩
theorem AX(l:List RowD)(A:Option Addr)(cap:Nat)(w:Wd)(ht:Tab w)(hs:Sn w 36 (.slice A l.length cap) l.length (l.flatMap d8))(K:∀ r∈l,RowOk r)(hl:l.length<=100000):
  Wc 7 #[.slice A l.length cap] w (Rt w (.string (SBy (fH l)))):=by
 have HS:=jz hs;have a4:=jz K;have HT:=jz (SP ht);clear hs K ht;go_enter func7,ntmps7
 go_wp2_with fail
 go_loopw [3,8] (λm i wr=>∃ k:Nat,k<=l.length/\i = .int .i64 k/\Hid (wr.ownsRow w.heap.size 5 1 m (fH (l.take k)).length (Lib.byteCells (fH (l.take k))))/\Hid (Bw w wr)) (λ_ i _=>l.length-(intOf i).toNat)
 case atStart=>exact⟨0,j0 _,rfl,jz (World.ownsRow_nil _ _ _ _),jz (ji _ _)⟩
 case round=>
  obtain⟨k,hk,rfl,HO,HB⟩:=hrel;have f8:(fH (l.take k)).length<=64*100000:=by
   have h1:=N2 (l.take k) (λf hf=>⟨(a4 f (j7 hf)).now,(a4 f (j7 hf)).live⟩);rw[jv] at h1;omega
  obtain⟨L,hL⟩:=je (fH (l.take k));rw[<- hL] at HO f8;rcases jo k l.length with f9|m8
  ·obtain⟨b,off,eA,a3⟩:=YZ (HS.below HB) a4 k f9;subst eA;obtain⟨r,hf⟩:=je (l[k]);rw[<- hf] at a3;have J:RowOk r:=by rw[hf];exact a4 _ (List.getElem_mem _)
   have a5:=jz J;have e1:=jz a3;have e8:=jz (I9 l k f9);rw[<- hf] at e8;have HL:=jz hL;have m9:(0:Int)<=k:=by omega
   have n0:(k:Int)<l.length:=by omega
   have h2:=HB.size;have h3:=FM r.kind;have g0:=FK r.code;have n2:=kY r.now J.now.1 J.now.2;have n1:=kY r.live J.live.1 J.live.2;have HZ:Hid ((prog.info? 31).map (·.size)=some (d8 r).length/\rowZ.size=(d8 r).toArray.size/\(prog.info? 31).map (·.size)=some (d8 r).toArray.size):=jz ⟨Z7 J,OL J,by rw[js];exact Z7 J⟩;clear hf J a3 hL;go_upto_region 5 with (first
    | (refine ld 31 (.tmp 10) rfl rfl (by rfl) e1 underlying31 rfl HZ.out.1 ?_)
    | (refine al 31 _ rfl rfl WE ?_)
    | (refine bZ 31 (.tmp 5) (.tmp 11) rfl rfl (by rfl) (by rfl) HZ.out.2.2 HZ.out.2.1 (all_oneCell_toArray (FW r)) ?_;intro wN d1 e0 m4))
   obtain⟨gr,f7⟩:=je wr.heap.size;rw[<- f7] at d1 ⊢;have V:Hid (TX w wN gr r u3 L):=jz ⟨aK HO e0,HB.trans (e0.mono h2),d1⟩;clear d1 e0 m4 f7;obtain⟨c0,c1,c2,c3⟩:=V.cells;obtain⟨W1,d5⟩:=je (b8 r.kind);have a6:=jz (OK r.kind wN);rw[<- d5] at a6 h3;have f0:Hid ((SBy W1).size=W1.length):=jz (bU W1);have m3:(SBy W1).size<=7:=by rw[bU];exact h3
   have d0:Hid ((SBy W1).data.toList=W1):=jz (o6 W1);have k2:=jz d5;obtain⟨S1,f5⟩:=je (SBy W1);rw[<- f5] at a6 f0 d0 m3;clear d5 f5;have g1:=V.bel.size;go_upto_region 6 with (first
    | (go_at_call 18;refine a6.mono ?_;rintro e wq ⟨rfl,rfl⟩)
    | (at_builtin;refine Z8 (.tmp 12) (.tmp 15) rfl rfl (by rfl) V.own (by rfl) (by omega) g1 ?_;intro v1 w1 x D))
   have Z:Hid (TX w w1 gr r v1 (L++W1)):=jz (V.step (by rw[<- f0.out,<- d0.out];rw[d0.out] at x ⊢;exact x) D);clear x D c0 c1 c2 c3 V g1 a6;obtain⟨L1,a8⟩:=je (L++W1);have n3:L1.length<=6400000+7:=by rw[a8,jj];omega
   rw[<- a8] at Z;have h4:=jz a8;clear a8;have k4:=Z.bel.size;go_upto_region 7 with (at_builtin;refine app tQ (.tmp 17) (.tmp 18) rfl rfl (by rfl) (Z.own.alloc _) (by rfl) (Sn.new w1 (Lib.byteCells [32]).toArray 5 1 1 rfl) (cP [32]) (by unfold maxLen;omega) (by omega) (by simp;omega) ?_;intro v2 w2 x D I;rw[jt,<- bB] at x)
   have O:Hid (TX w w2 gr r v2 (L1++[32])):=jz (Z.one x rfl D);clear x D I Z k4;obtain⟨c0,c1,c2,c3⟩:=O.cells;obtain⟨L2,a9⟩:=je (L1++[32]);have n4:L2.length<=6400000+8:=by rw[a9,jj];simp;omega
   rw[<- a9] at O;have h5:=jz a9;clear a9;obtain⟨S2,d2⟩:=je (i6 r.code);have c9:=jz (SD r.code w2);rw[<- d2] at c9 g0;have k1:=jz d2;clear d2;have c7:Hid (S2.size=S2.data.toList.length):=jz (by rw[jk];rfl);go_upto_region 8 with (first
    | (go_at_call 19;refine c9.mono ?_;rintro e wq ⟨rfl,c6⟩;have HXq:Hid (TX w wq gr r v2 L2):=jz ⟨aK O.own c6,O.bel.trans (c6.mono O.bel.size),O.blk.keep c6⟩;have g8:=HXq.bel.size;clear c6)
    | (at_builtin;refine Z8 (.tmp 20) (.tmp 23) rfl rfl (by rfl) HXq.own (by rfl) (by omega) g8 ?_;intro v3 w3 x D))
   have a0:Hid (TX w w3 gr r v3 (L2++S2.data.toList)):=jz (HXq.step (by rw[<- c7.out];exact x) D);clear x D c0 c1 c2 c3 O c9 HXq g8;obtain⟨L3,b0⟩:=je (L2++S2.data.toList);have n6:L3.length<=6400000+21:=by rw[b0,jj,<- c7.out];omega
   rw[<- b0] at a0;have h6:=jz b0;clear b0;have m1:=a0.bel.size;go_upto_region 9 with (at_builtin;refine app tQ (.tmp 25) (.tmp 26) rfl rfl (by rfl) (a0.own.alloc _) (by rfl) (Sn.new w3 (Lib.byteCells [32]).toArray 5 1 1 rfl) (cP [32]) (by unfold maxLen;omega) (by omega) (by simp;omega) ?_;intro v4 w4 x D I;rw[jt,<- bB] at x)
   have R:Hid (TX w w4 gr r v4 (L3++[32])):=jz (a0.one x rfl D);clear x D I a0 m1;obtain⟨c0,c1,c2,c3⟩:=R.cells;obtain⟨L4,b1⟩:=je (L3++[32]);have q0:L4.length<=6400000+22:=by rw[b1,jj];simp;omega
   rw[<- b1] at R;have h7:=jz b1;clear b1;have g2:=R.bel.size;go_upto_region 10 with (go_at_call 20;refine(Tryz.strconv_AppendInt_10 w.heap.size _ r.now a5.now.1 a5.now.2 _ _ _ R.own g2 (by omega) (λw' d7=>HT.out w' (R.bel.trans d7))).mono ?_;rintro e w5 ⟨v5,rfl,x,a2,K⟩)
   have a1:Hid (TX w w5 gr r v5 (L4++Lib.itoa r.now)):=jz (R.num x a2 K);clear x a2 K R g2 c0 c1 c2 c3;obtain⟨L5,b7⟩:=je (L4++Lib.itoa r.now);have q1:L5.length<=6400000+42:=by rw[b7,jj];omega
   rw[<- b7] at a1;have h8:=jz b7;clear b7;have m2:=a1.bel.size;go_upto_region 11 with (at_builtin;refine app tQ (.tmp 32) (.tmp 33) rfl rfl (by rfl) (a1.own.alloc _) (by rfl) (Sn.new w5 (Lib.byteCells [32]).toArray 5 1 1 rfl) (cP [32]) (by unfold maxLen;omega) (by omega) (by simp;omega) ?_;intro v6 w6 x D I;rw[jt,<- bB] at x)
   have U:Hid (TX w w6 gr r v6 (L5++[32])):=jz (a1.one x rfl D);clear x D I a1 m2;obtain⟨c0,c1,c2,c3⟩:=U.cells;obtain⟨L6,c4⟩:=je (L5++[32]);have q2:L6.length<=6400000+43:=by rw[c4,jj];simp;omega
   rw[<- c4] at U;have h9:=jz c4;clear c4;have g3:=U.bel.size;go_upto_region 12 with (go_at_call 20;refine(Tryz.strconv_AppendInt_10 w.heap.size _ r.live a5.live.1 a5.live.2 _ _ _ U.own g3 (by omega) (λw' d7=>HT.out w' (U.bel.trans d7))).mono ?_;rintro e w7 ⟨v7,rfl,x,a2,K⟩)
   have a7:Hid (TX w w7 gr r v7 (L6++Lib.itoa r.live)):=jz (U.num x a2 K);clear x a2 K U g3 c0 c1 c2 c3;obtain⟨L7,c5⟩:=je (L6++Lib.itoa r.live);have q3:L7.length<=6400000+63:=by rw[c5,jj];omega
   rw[<- c5] at a7;have k0:=jz c5;clear c5;have q4:=a7.bel.size;go_wp2_with (at_builtin;refine app tQ (.tmp 39) (.tmp 40) rfl rfl (by rfl) (a7.own.alloc _) (by rfl) (Sn.new w7 (Lib.byteCells [10]).toArray 5 1 1 rfl) (cP [10]) (by unfold maxLen;omega) (by omega) (by simp;omega) ?_;intro v8 w8 x D I;rw[jt,<- bB] at x;have f1:Hid (TX w w8 gr r v8 (L7++[10])):=jz (a7.one x rfl D);clear x D I)
   have f6:L7++[10]=fH (l.take (k+1)):=by
    rw[e8.out,<- HL.out,k0.out,h9.out,h8.out,h7.out,h6.out,h5.out,h4.out,k2.out,k1.out];simp[FJ]
   have f3:=f1.own;rw[f6] at f3;exact⟨⟨k+1,by omega,by go_num,jz f3,jz f1.bel⟩,by simp[intOf];omega⟩
  ·obtain rfl:k=l.length:=by omega
   rw[List.take_length] at hL;have m6:(convert 68 9 u3).run prog wr = .ok (.string (SBy (fH l))) wr:=by
    rcases HO.out.2 with ⟨rfl,h0⟩|⟨g,f2,m5,rfl,_,hh,_⟩
    ·have k3:L=[]:=List.eq_nil_of_length_eq_zero h0;rw[run_convert_bytes_nil wr 68 5 underlying68 underlying5 _ _ _ underlying9];unfold SBy;rw[<- hL,k3];rfl
    ·have:=run_convert_bytes_back wr 68 9 5 ⟨g,0,none⟩ f2 L underlying68 underlying5 underlying9 (λj hj=>by
      have:=HO.cells (g:=g) rfl j (.int .u8 (L[j].toNat:Int)) (by simp[Lib.byteCells,hj])
      exact this)
     unfold SBy;rw[<- hL];exact this
   have HL:=jz hL;clear hL;go_wp2_with fail
   go_ret;exact⟨rfl,HB⟩
end
section
open Go.RowKit
attribute [local irreducible] wpQuiet wpAnyH
theorem SQ(n:Nat)(K:2<=n):∃ r',(3<=r'/\r'<=6)/\cI (eV n)=(none,qD ((List.replicate n zsec).set 0 (rec 1 toll)) [] 3 r',some (⟨0,0,1,0,false⟩,[])):=by
 obtain⟨r',O,R,U⟩:=ZS (sec:=List.replicate n zsec) (st:=1) (r:=1) (a:=0) (by decide) (by simp;omega) (rec 1 toll);refine⟨r',⟨by omega,by omega⟩,?_⟩;have I:=NR n K;have J:(eV n).sec.length=n:=List.length_replicate;unfold cI;rw[jQ (by omega),YB,VD,KW];show jB (qD (List.replicate n zsec) [] 1 1)=_;have j:(qD (List.replicate n zsec) [] 1 1).sec.length=n:=List.length_replicate;have D:(q8 (qD (List.replicate n zsec) [] 1 1)).1=none:=IV (λs hs=>by rw[j];exact I.scan s hs);have x:cN (qD (List.replicate n zsec) [] 1 1) (qD (List.replicate n zsec) [] 1 1).sec.length=0:=by
  have:=E7 (d:=qD (List.replicate n zsec) [] 1 1) rfl rfl 0 I.tag _ (ja _);omega
 unfold jB;rw[D,x];simp only[show ¬((0:Nat)=4294967295) by omega,if_false,Nat.zero_add];rw[ZR (by decide) (by simp;omega),U];rfl
end
section
open Go.RowKit
end
section
theorem tL{P:Program}{W:Wd}:∀ {laid:List (String×DataW Unit)} {ps:List MemPlace},DataW.LaidVars P W laid ps->∀(i:Nat) (x:String×DataW Unit),laid[i]? = some x->∃ q rest,DataW.LaidVars P W (x :: rest) q
 | [],_,_,i,x,hi=>by simp at hi
 | y :: r,ps,h,0,x,hi=>by
  obtain rfl:y=x:=by simpa using hi
  exact⟨ps,r,h⟩
 | (n,d) :: r,ps,h,i+1,x,hi=>by
  obtain⟨_,_,_,_,_,q,_,_,_,_,j,_⟩:=h;exact tL j i x (by simpa using hi)
theorem FY{P:Program}{W:Wd}{laid:List (String×DataW Unit)}{j:String}{k:IntKind}{zs:Wl}{g:Nat}{t e:TypeId}{n:Nat}(i:Nat)(hi:laid[i]? = some (j,Lib.tabData k zs))
  (hg:P.globalNamed j=some g) (O:(P.globals[g]?).map (·.type)=some t) (ht:P.underlying t=some (.array n e)) (R:P.underlying e=some (.int k)) (D:P.cellsOf e=1) (I:P.cellsOf t=n)
  (h:laidMet P laid W):Lib.TabIs P W j k zs:=by
 obtain⟨ps,U,_⟩:=h;obtain⟨q,rest,V⟩:=tL U i _ hi;obtain⟨Z,t',cs,fuel,p,q',J,K,x,hd,_,_⟩:=V;obtain rfl:=Option.some.inj (hg.symm.trans J);obtain rfl:=Option.some.inj (O.symm.trans K);unfold Lib.TabIs;rw[x,<- Lib.cells_of_tab ht R D I hd]
def rL:DataW Unit->Wa
 | .agg l=>(l.map λd=>match d with | .lit (.int k z)=>Value.int k z|_=>Value.nilIface).toArray
 | _=>#[]
def LO(h:Array Obj)(g:Nat)(cs:Wa):Array Obj:=h.modify g λo=>match o with | .cells _ t f=>.cells cs t f|o=>o
theorem XM{W:Wd}(h:laidMetH prog Rows.engineTextsRow.laid W):Tab W:=
 FY (laid:=Rows.engineTextsRow.laid) (t:=264) (e:=141) 2 rfl YK (by kernel_rfl) underlying264 underlying141 (by kernel_rfl) (by kernel_rfl) h
theorem Z9{W:Wd}(h:W.ShapedOpen prog):ML W:=Tryz.laysM145.s1_3 W h
theorem XN : prog.globalNamed "toll/sha.constants" = some 1 := by kernel_rfl
theorem Y0{W:Wd}(h:laidMetH prog Rows.engineTextsRow.laid W):TabK W:=by
 have h1 : Lib.TabIs prog W "toll/sha.constants" .u32 (shaT.map λn : Nat => (n : Int)) :=
  FY (laid:=Rows.engineTextsRow.laid) (t:=255) (e:=51) 3 (by kernel_rfl) XN (by kernel_rfl) underlying255 underlying51 (by kernel_rfl) (by kernel_rfl) h
 unfold Lib.TabIs World.var? at h1;simp only[XN,Option.bind_some] at h1;intro i hi;have I:i<shaT.length:=by
  have D:shaT.length=64:=by kernel_rfl
  omega
 cases hh:W.heap[1]? with
 | none=>rw[hh] at h1;cases h1
 | some o=>
  rw[hh] at h1;cases o with
  | cells cs t fz=>
   have j:cs=((shaT.map λn:Nat=>(n:Int)).map λz=>Value.int .u32 z).toArray:=Option.some.inj h1;have x:W.cell? ⟨1,i,none⟩=cs[i]?:=by simp[World.cell?,hh]
   rw[x,j];unfold G1;simp[jn,I]
  | _=>cases h1
end
end Go.Proofs.YtiaigidbcljblaaGreatDoor
