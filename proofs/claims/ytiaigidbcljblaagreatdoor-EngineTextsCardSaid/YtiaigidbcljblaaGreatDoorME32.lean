import Derived.Test.YtiaigidbcljblaaGreatDoorME25
import Derived.Test.YtiaigidbcljblaaGreatDoorME26
import Derived.Test.YtiaigidbcljblaaGreatDoorME27
import Derived.Lib.AppendStr
import Derived.Lib.OthersKept
set_option linter.unusedVariables false
set_option linter.unusedSimpArgs false
set_option maxRecDepth 100000
set_option maxHeartbeats 40000000
namespace Go.Proofs.YtiaigidbcljblaaGreatDoor
open Go.RowKit
attribute [local irreducible] wpQuiet wpAnyH
theorem eword_any(k:Int)(w:World):
  Calls Tryz.prog 18 #[.int .i64 k] w fun e w'=>e = .returned (.string (SBy (wordL k)))∧w'=w:=by
 by_cases h1:k=1
 ·subst h1
  go_enter Tryz.func18,Tryz.ntmps18
  go_wp2_with fail
  go_ret
  exact⟨rfl,rfl⟩
 by_cases h2:k=2
 ·subst h2
  go_enter Tryz.func18,Tryz.ntmps18
  go_wp2_with fail
  go_ret
  exact⟨rfl,rfl⟩
 by_cases h3:k=3
 ·subst h3
  go_enter Tryz.func18,Tryz.ntmps18
  go_wp2_with fail
  go_ret
  exact⟨rfl,rfl⟩
 by_cases h4:k=4
 ·subst h4
  go_enter Tryz.func18,Tryz.ntmps18
  go_wp2_with fail
  go_ret
  exact⟨rfl,rfl⟩
 by_cases h5:k=5
 ·subst h5
  go_enter Tryz.func18,Tryz.ntmps18
  go_wp2_with fail
  go_ret
  exact⟨rfl,rfl⟩
 by_cases h6:k=6
 ·subst h6
  go_enter Tryz.func18,Tryz.ntmps18
  go_wp2_with fail
  go_ret
  exact⟨rfl,rfl⟩
 have e:wordL k=[]:=by unfold wordL;simp[h1,h2,h3,h4,h5,h6]
 rw[e]
 have t1:(k == 1)=false:=beq_eq_false_iff_ne.2 h1
 have t2:(k == 2)=false:=beq_eq_false_iff_ne.2 h2
 have t3:(k == 3)=false:=beq_eq_false_iff_ne.2 h3
 have t4:(k == 4)=false:=beq_eq_false_iff_ne.2 h4
 have t5:(k == 5)=false:=beq_eq_false_iff_ne.2 h5
 have t6:(k == 6)=false:=beq_eq_false_iff_ne.2 h6
 clear h1 h2 h3 h4 h5 h6 e
 go_enter Tryz.func18,Tryz.ntmps18
 go_wp2_with fail
 go_ret
 exact⟨rfl,rfl⟩
theorem rowE_one(r:RowD):∀ u∈rowC r,u.oneCell'=true:=by
 intro u hu
 simp only[rowC,List.mem_cons] at hu
 rcases hu with rfl|rfl|rfl|rfl|hu
 ·rfl
 ·rfl
 ·rfl
 ·rfl
 ·exact u8s_mem _ u hu
def rowZ:Array Value:=(rowC ⟨0,0,0,0,List.replicate 32 0⟩).toArray
theorem zeroRow:∀ w,(zeroValue 31).run Tryz.prog w = .ok (.agg rowZ) w:=fun w=>by unfold rowZ;kernel_rfl
theorem rowI{r:RowD}(h:RowOk r):(Tryz.prog.info? 31).map (·.size)=some (rowC r).length:=by rw[rowC_length h];kernel_rfl
theorem rowZ_size{r:RowD}(h:RowOk r):rowZ.size=(rowC r).toArray.size:=by unfold rowZ;rw[List.size_toArray,List.size_toArray,rowC_length h];rfl
theorem own_ne{w:World}{base e s n:Nat}{v:Value}{xs:List Value}{g t:Nat}{cs:Array Value}(h:w.ownsRow base e s v n xs)(hB:Blk w g t cs)(hte:t≠e):some g≠v.ownBlock:=by
 intro he
 rcases h.2 with ⟨rfl,_⟩|⟨g',cap,cur,rfl,_,hh,_⟩
 ·cases he
 ·have:g=g':=Option.some.inj he
  subst this
  unfold Blk at hB
  rw[hB] at hh
  injection hh with hh
  injection hh with _ h2 _
  exact hte h2
structure TX(w W:World)(g:Nat)(r:RowD)(v:Value)(L:List UInt8):Prop where
 own:W.ownsRow w.heap.size 5 1 v L.length (Lib.byteCells L)
 bel:Below w.heap.size w W
 blk:Blk W g 31 (rowC r).toArray
section
variable {w W W' : World} {g : Nat} {r : RowD} {v v' : Value} {L M : List UInt8}
theorem TX.step(h:TX w W g r v L)(ho:W'.ownsRow w.heap.size 5 1 v' (L.length+M.length) (Lib.byteCells (L++M)))(hg:W.grownBy W' v.ownBlock):TX w W' g r v' (L++M):=
 ⟨by rw[List.length_append];exact ho,h.bel.grown hg h.bel.size (fun b hb=>(h.own.lt b hb).1),(hg.block g h.blk.lt (own_ne h.own h.blk (by decide))).trans h.blk⟩
theorem TX.one(h:TX w W g r v L){o:Obj}(ho:W'.ownsRow w.heap.size 5 1 v' (L.length+1) (Lib.byteCells (L++M)))(hm:M.length=1)(hg:(W.alloc o).grownBy W' v.ownBlock):TX w W' g r v' (L++M):=by
 have k:TX w (W.alloc o) g r v L:=⟨h.own.alloc _,h.bel.alloc h.bel.size _,h.blk.alloc _⟩
 exact k.step (by rw[hm];exact ho) hg
theorem TX.num(h:TX w W g r v L)(ho:W'.ownsRow w.heap.size 5 1 v' (L.length+M.length) (Lib.byteCells L++Lib.byteCells M))(hb:Below w.heap.size W W')(hk:Lib.OthersKept 5 none W W'):TX w W' g r v' (L++M):=
 ⟨by rw[List.length_append,byteCells_append];exact ho,h.bel.trans hb,hk g _ h.blk (by simp) (fun c fz e=>by cases e)⟩
theorem TX.cells(h:TX w W g r v L):W.cell? ⟨g,0,none⟩=some (.int .i64 r.kind)∧W.cell? ⟨g,1,none⟩=some (.int .i64 r.code)∧W.cell? ⟨g,2,none⟩=some (.int .i64 r.now)∧W.cell? ⟨g,3,none⟩=some (.int .i64 r.live):=
 ⟨(h.blk.cell 0).trans rfl,(h.blk.cell 1).trans rfl,(h.blk.cell 2).trans rfl,(h.blk.cell 3).trans rfl⟩
end
theorem tabBelow {w : World} (h : Tab w) : Lib.TabBelow Tryz.prog w.heap.size w "internal/strconv.uint64pow10" .u64 Lib.pow10Tab := fun _ hb => h.below hb
theorem strCells_bytes(s:ByteArray):Lib.strCells s=Lib.byteCells s.data.toList:=by simp[Lib.byteCells,Lib.strCells]
theorem appS{ops:Array Oper}{rest:List Oper}{o:Oper}{a:Act}{w:World}{Q:Exit→Act→World→Prop}(sl x:Operand)
  (ho:o.op = .call { callee:=.builtin .append,args:=#[sl,x],argTypes:=#[68,9] }) (hgd:o.guard=none)
  {base n:Nat} {v:Value} {l:List UInt8} {s:ByteArray} (hs:a.eval sl=v) (hown:w.ownsRow base 5 1 v n (Lib.byteCells l)) (hx:a.eval x = .string s)
  (hsz:n+s.size≤140737488355328) (hbase:base≤w.heap.size)
  (h:∀ v' w',w'.ownsRow base 5 1 v' (n+s.size) (Lib.byteCells (l++s.data.toList))→w.grownBy w' v.ownBlock→wpList Tryz.prog ops Q rest (a.put o.dst v') w'):wpList Tryz.prog ops Q (o :: rest) a w:=by
 have hI:(Tryz.prog.info? 5).map (fun i=>(i.zero,i.size,i.bytes))=some (some (.int .u8 0),1,1):=by kernel_rfl
 obtain⟨i,h1,h2,h3,h4⟩:=info_parts hI
 refine Lib.wpList_append_own_string w hgd sl x 68 9 ho base 5 i Tryz.underlying68 Tryz.underlying9 h1 h2 h3 h4 v n _ hs hown s hx (by unfold maxLen;omega) hsz hbase ?_
 intro v' w' h5 h6 _
 rw[strCells_bytes,← byteCells_append] at h5
 exact h v' w' h5 h6
theorem at_row{w:World}{A:Option Addr}{cap:Nat}{l:List RowD}(h:Sn w 36 (.slice A l.length cap) l.length (l.flatMap rowC))(hok:∀ r∈l,RowOk r)(k:Nat)(hk:k<l.length):
  ∃ b off,A=some ⟨b,off,none⟩∧w.rangeAt b (off+k*36) (rowC l[k]):=by
 obtain⟨b,off,rfl,hr⟩:=h.range k hk
 rw[flatMap_piece rowC 36 l (fun r hr=>rowC_length (hok r hr)) k hk] at hr
 exact⟨b,off,rfl,hr⟩
theorem etext_any(l:List RowD)(A:Option Addr)(cap:Nat)(w:World)(ht:Tab w)(hs:Sn w 36 (.slice A l.length cap) l.length (l.flatMap rowC))(hok:∀ r∈l,RowOk r)(hl:l.length≤100000):
  Calls Tryz.prog 7 #[.slice A l.length cap] w fun e w'=>e = .returned (.string (SBy (textE l)))∧Below w.heap.size w w':=by
 have HS:=Lib.hid hs
 have HOK:=Lib.hid hok
 have HT:=Lib.hid (tabBelow ht)
 clear hs hok ht
 go_enter Tryz.func7,Tryz.ntmps7
 go_wp2_with fail
 go_loopw [3,8] (fun m i wr=>∃ k:Nat,k≤l.length∧i = .int .i64 k∧Hid (wr.ownsRow w.heap.size 5 1 m (textE (l.take k)).length (Lib.byteCells (textE (l.take k))))∧Hid (Below w.heap.size w wr)) (fun _ i _=>l.length-(intOf i).toNat)
 case atStart=>exact⟨0,Nat.zero_le _,rfl,Lib.hid (World.ownsRow_nil _ _ _ _),Lib.hid (Below.refl _ _)⟩
 case round=>
  obtain⟨k,hk,rfl,HO,HB⟩:=hrel
  have hlen:(textE (l.take k)).length≤64*100000:=by
   have h1:=textE_len (l.take k) (fun f hf=>⟨(HOK.out f (List.mem_of_mem_take hf)).now,(HOK.out f (List.mem_of_mem_take hf)).live⟩)
   rw[List.length_take] at h1
   omega
  obtain⟨L,hL⟩:∃ L,L=textE (l.take k):=⟨_,rfl⟩
  rw[← hL] at HO hlen
  rcases Nat.lt_or_ge k l.length with hlt|hge
  ·obtain⟨b,off,eA,hrow⟩:=at_row (HS.below HB.out) HOK.out k hlt
   subst eA
   obtain⟨r,hf⟩:∃ f,f=l[k]:=⟨_,rfl⟩
   rw[← hf] at hrow
   have hro:RowOk r:=by rw[hf];exact HOK.out _ (List.getElem_mem _)
   have HRO:=Lib.hid hro
   have HROW:=Lib.hid hrow
   have HSN:=Lib.hid (textE_snoc l k hlt)
   rw[← hf] at HSN
   have HL:=Lib.hid hL
   have hi0:(0:Int)≤k:=by omega
   have hi1:(k:Int)<l.length:=by omega
   have hszr:=HB.size
   have hw7:=word_len r.kind
   have hn13:=name_len r.code
   have hit:=itoa_len r.now hro.now.1 hro.now.2
   have hil:=itoa_len r.live hro.live.1 hro.live.2
   have HZ:Hid ((Tryz.prog.info? 31).map (·.size)=some (rowC r).length∧rowZ.size=(rowC r).toArray.size∧(Tryz.prog.info? 31).map (·.size)=some (rowC r).toArray.size):=Lib.hid ⟨rowI hro,rowZ_size hro,by rw[List.size_toArray];exact rowI hro⟩
   clear hf hro hrow hL
   go_upto_region 5 with (first
    | (refine ld 31 (.tmp 10) rfl rfl (by rfl) HROW.out Tryz.underlying31 rfl HZ.out.1 ?_)
    | (refine al 31 _ rfl rfl zeroRow ?_)
    | (refine stNew 31 (.tmp 5) (.tmp 11) rfl rfl (by rfl) (by rfl) HZ.out.2.2 HZ.out.2.1 (all_oneCell_toArray (rowE_one r)) ?_;intro wN hBN hbN hzN))
   obtain⟨gr,hgr⟩:∃ g,g=wr.heap.size:=⟨_,rfl⟩
   rw[← hgr] at hBN ⊢
   have HX0:Hid (TX w wN gr r u3 L):=Lib.hid ⟨own_below HO.out hbN,HB.trans (hbN.mono hszr),hBN⟩
   clear hBN hbN hzN hgr
   obtain⟨c0,c1,c2,c3⟩:=HX0.cells
   obtain⟨W1,hW1⟩:∃ W,W=wordL r.kind:=⟨_,rfl⟩
   have HWD:=Lib.hid (eword_any r.kind wN)
   rw[← hW1] at HWD hw7
   have HSZ:Hid ((SBy W1).size=W1.length):=Lib.hid (SB_size W1)
   have hsb:(SBy W1).size≤7:=by rw[SB_size];exact hw7
   have HSL:Hid ((SBy W1).data.toList=W1):=Lib.hid (SB_list W1)
   have HW1:=Lib.hid hW1
   obtain⟨S1,hS1⟩:∃ S,S=SBy W1:=⟨_,rfl⟩
   rw[← hS1] at HWD HSZ HSL hsb
   clear hW1 hS1
   have hs0:=HX0.bel.size
   go_upto_region 6 with (first
    | (go_at_call 18;refine HWD.mono ?_;rintro e wq ⟨rfl,rfl⟩)
    | (at_builtin;refine appS (.tmp 12) (.tmp 15) rfl rfl (by rfl) HX0.own (by rfl) (by omega) hs0 ?_;intro v1 w1 hown hgrow))
   have HX1:Hid (TX w w1 gr r v1 (L++W1)):=Lib.hid (HX0.step (by rw[← HSZ.out,← HSL.out];rw[HSL.out] at hown ⊢;exact hown) hgrow)
   clear hown hgrow c0 c1 c2 c3 HX0 hs0 HWD
   obtain⟨L1,hL1⟩:∃ M,M=L++W1:=⟨_,rfl⟩
   have hl1:L1.length≤6400000+7:=by rw[hL1,List.length_append];omega
   rw[← hL1] at HX1
   have HL1:=Lib.hid hL1
   clear hL1
   have hs1:=HX1.bel.size
   go_upto_region 7 with (at_builtin;refine app tByt (.tmp 17) (.tmp 18) rfl rfl (by rfl) (HX1.own.alloc _) (by rfl) (Sn.new w1 (Lib.byteCells [32]).toArray 5 1 1 rfl) (byteCells_one [32]) (by unfold maxLen;omega) (by omega) (by simp;omega) ?_;intro v2 w2 hown hgrow hblk;rw[List.toList_toArray,← byteCells_append] at hown)
   have HX2:Hid (TX w w2 gr r v2 (L1++[32])):=Lib.hid (HX1.one hown rfl hgrow)
   clear hown hgrow hblk HX1 hs1
   obtain⟨c0,c1,c2,c3⟩:=HX2.cells
   obtain⟨L2,hL2⟩:∃ M,M=L1++[32]:=⟨_,rfl⟩
   have hl2:L2.length≤6400000+8:=by rw[hL2,List.length_append];simp;omega
   rw[← hL2] at HX2
   have HL2:=Lib.hid hL2
   clear hL2
   obtain⟨S2,hS2⟩:∃ S,S=nameOf r.code:=⟨_,rfl⟩
   have HNM:=Lib.hid (name_any r.code w2)
   rw[← hS2] at HNM hn13
   have HS2:=Lib.hid hS2
   clear hS2
   have HSL2:Hid (S2.size=S2.data.toList.length):=Lib.hid (by rw[Array.length_toList];rfl)
   go_upto_region 8 with (first
    | (go_at_call 19;refine HNM.mono ?_;rintro e wq ⟨rfl,hbq⟩;have HXq:Hid (TX w wq gr r v2 L2):=Lib.hid ⟨own_below HX2.own hbq,HX2.bel.trans (hbq.mono HX2.bel.size),HX2.blk.keep hbq⟩;have hsq:=HXq.bel.size;clear hbq)
    | (at_builtin;refine appS (.tmp 20) (.tmp 23) rfl rfl (by rfl) HXq.own (by rfl) (by omega) hsq ?_;intro v3 w3 hown hgrow))
   have HX3:Hid (TX w w3 gr r v3 (L2++S2.data.toList)):=Lib.hid (HXq.step (by rw[← HSL2.out];exact hown) hgrow)
   clear hown hgrow c0 c1 c2 c3 HX2 HNM HXq hsq
   obtain⟨L3,hL3⟩:∃ M,M=L2++S2.data.toList:=⟨_,rfl⟩
   have hl3:L3.length≤6400000+21:=by rw[hL3,List.length_append,← HSL2.out];omega
   rw[← hL3] at HX3
   have HL3:=Lib.hid hL3
   clear hL3
   have hs3:=HX3.bel.size
   go_upto_region 9 with (at_builtin;refine app tByt (.tmp 25) (.tmp 26) rfl rfl (by rfl) (HX3.own.alloc _) (by rfl) (Sn.new w3 (Lib.byteCells [32]).toArray 5 1 1 rfl) (byteCells_one [32]) (by unfold maxLen;omega) (by omega) (by simp;omega) ?_;intro v4 w4 hown hgrow hblk;rw[List.toList_toArray,← byteCells_append] at hown)
   have HX4:Hid (TX w w4 gr r v4 (L3++[32])):=Lib.hid (HX3.one hown rfl hgrow)
   clear hown hgrow hblk HX3 hs3
   obtain⟨c0,c1,c2,c3⟩:=HX4.cells
   obtain⟨L4,hL4⟩:∃ M,M=L3++[32]:=⟨_,rfl⟩
   have hl4:L4.length≤6400000+22:=by rw[hL4,List.length_append];simp;omega
   rw[← hL4] at HX4
   have HL4:=Lib.hid hL4
   clear hL4
   have hs4:=HX4.bel.size
   go_upto_region 10 with (go_at_call 20;refine(Tryz.strconv_AppendInt_10 w.heap.size _ r.now HRO.now.1 HRO.now.2 _ _ _ HX4.own hs4 (by omega) (fun w' hb'=>HT.out w' (HX4.bel.trans hb'))).mono ?_;rintro e w5 ⟨v5,rfl,hown,hbl,hok⟩)
   have HX5:Hid (TX w w5 gr r v5 (L4++Lib.itoa r.now)):=Lib.hid (HX4.num hown hbl hok)
   clear hown hbl hok HX4 hs4 c0 c1 c2 c3
   obtain⟨L5,hL5⟩:∃ M,M=L4++Lib.itoa r.now:=⟨_,rfl⟩
   have hl5:L5.length≤6400000+42:=by rw[hL5,List.length_append];omega
   rw[← hL5] at HX5
   have HL5:=Lib.hid hL5
   clear hL5
   have hs5:=HX5.bel.size
   go_upto_region 11 with (at_builtin;refine app tByt (.tmp 32) (.tmp 33) rfl rfl (by rfl) (HX5.own.alloc _) (by rfl) (Sn.new w5 (Lib.byteCells [32]).toArray 5 1 1 rfl) (byteCells_one [32]) (by unfold maxLen;omega) (by omega) (by simp;omega) ?_;intro v6 w6 hown hgrow hblk;rw[List.toList_toArray,← byteCells_append] at hown)
   have HX6:Hid (TX w w6 gr r v6 (L5++[32])):=Lib.hid (HX5.one hown rfl hgrow)
   clear hown hgrow hblk HX5 hs5
   obtain⟨c0,c1,c2,c3⟩:=HX6.cells
   obtain⟨L6,hL6⟩:∃ M,M=L5++[32]:=⟨_,rfl⟩
   have hl6:L6.length≤6400000+43:=by rw[hL6,List.length_append];simp;omega
   rw[← hL6] at HX6
   have HL6:=Lib.hid hL6
   clear hL6
   have hs6:=HX6.bel.size
   go_upto_region 12 with (go_at_call 20;refine(Tryz.strconv_AppendInt_10 w.heap.size _ r.live HRO.live.1 HRO.live.2 _ _ _ HX6.own hs6 (by omega) (fun w' hb'=>HT.out w' (HX6.bel.trans hb'))).mono ?_;rintro e w7 ⟨v7,rfl,hown,hbl,hok⟩)
   have HX7:Hid (TX w w7 gr r v7 (L6++Lib.itoa r.live)):=Lib.hid (HX6.num hown hbl hok)
   clear hown hbl hok HX6 hs6 c0 c1 c2 c3
   obtain⟨L7,hL7⟩:∃ M,M=L6++Lib.itoa r.live:=⟨_,rfl⟩
   have hl7:L7.length≤6400000+63:=by rw[hL7,List.length_append];omega
   rw[← hL7] at HX7
   have HL7:=Lib.hid hL7
   clear hL7
   have hs7:=HX7.bel.size
   go_wp2_with (at_builtin;refine app tByt (.tmp 39) (.tmp 40) rfl rfl (by rfl) (HX7.own.alloc _) (by rfl) (Sn.new w7 (Lib.byteCells [10]).toArray 5 1 1 rfl) (byteCells_one [10]) (by unfold maxLen;omega) (by omega) (by simp;omega) ?_;intro v8 w8 hown hgrow hblk;rw[List.toList_toArray,← byteCells_append] at hown;have HX8:Hid (TX w w8 gr r v8 (L7++[10])):=Lib.hid (HX7.one hown rfl hgrow);clear hown hgrow hblk)
   have hfin:L7++[10]=textE (l.take (k+1)):=by
    rw[HSN.out,← HL.out,HL7.out,HL6.out,HL5.out,HL4.out,HL3.out,HL2.out,HL1.out,HW1.out,HS2.out]
    simp[lineE]
   have hO8:=HX8.own
   rw[hfin] at hO8
   exact⟨⟨k+1,by omega,by go_num,Lib.hid hO8,Lib.hid HX8.bel⟩,by simp[intOf];omega⟩
  ·obtain rfl:k=l.length:=by omega
   rw[List.take_length] at hL
   have hcv:(convert 68 9 u3).run Tryz.prog wr = .ok (.string (SBy (textE l))) wr:=by
    rcases HO.out.2 with ⟨rfl,h0⟩|⟨g,cap',cur,rfl,_,hh,_⟩
    ·have hL0:L=[]:=List.eq_nil_of_length_eq_zero h0
     rw[run_convert_bytes_nil wr 68 5 Tryz.underlying68 Tryz.underlying5 _ _ _ Tryz.underlying9]
     unfold SBy
     rw[← hL,hL0]
     rfl
    ·have:=run_convert_bytes_back wr 68 9 5 ⟨g,0,none⟩ cap' L Tryz.underlying68 Tryz.underlying5 Tryz.underlying9 (fun j hj=>by
      have:=HO.cells (g:=g) rfl j (.int .u8 (L[j].toNat:Int)) (by simp[Lib.byteCells,hj])
      exact this)
     unfold SBy
     rw[← hL]
     exact this
   have HL:=Lib.hid hL
   clear hL
   go_wp2_with fail
   go_ret
   exact⟨rfl,HB.out⟩
end Go.Proofs.YtiaigidbcljblaaGreatDoor
