import Derived.Test.YtombncedfleljaaGreatMC22
set_option linter.unusedSimpArgs false
set_option maxRecDepth 100000
set_option maxHeartbeats 40000000
namespace Go.Proofs.YtombncedfleljaaGreat
section
open Go.RowKit
attribute [local irreducible] wpQuiet wpAnyH
theorem ER{p:List Int}(h:p.length=40):(p.take 32).length=32∧(p.drop 32).length=8:=by simp[h]
theorem yY(s:List Int)(w:World)(hl:s.length=64)(hb:Bys s):
    Calls Tryz.prog 153 #[.agg (u8s s).toArray] w fun e w'=>Below w.heap.size w w' ∧
      ((fB s=none∧e = .returned (.tuple #[.int .u32 0,.agg zE,.bool false]))∨(∃ g q,fB s=some (g,q)∧e = .returned (.tuple #[.int .u32 g,.agg (aC q).toArray,.bool true]))):=by
  have hul:(u8s s).length=64:=by rw[aP,hl]
  obtain⟨w1,hw1⟩:=je ((w.alloc (.cells (u8s s).toArray 144)).alloc (.cells zE 35));have hA1:Blk w1 w.heap.size 144 (u8s s).toArray:=by rw[hw1];exact(Blk.new _ _ _).alloc _
  have hZ1:Blk w1 (w.heap.size+1) 35 zE:=by rw[hw1];exact Blk.newAt _ _ _ _ (by simp)
  have hb1:Below w.heap.size w w1:=by rw[hw1];exact aB (aN _ _) (aN _ _)
  have hsz1:w1.heap.size=w.heap.size+2:=by rw[hw1];simp
  have hr1:=hA1.range;rw[jt] at hr1;have HR1:=jz hr1;have HZ1:=jz hZ1;have HW1:=jz hb1;have hes:zE.size=33:=dR;have he1:=vT;have hei:(Tryz.prog.info? 35).map (·.size)=some zE.size:=by rw[dR];kernel_rfl
  clear hA1 hZ1 hb1 hr1;go_enter Tryz.func153,Tryz.ntmps153
  go_upto_region 1 with (refine al 35 zE rfl rfl iE ?_)
  rw[← hw1];clear hw1;go_wp2_with (refine ld 144 _ rfl rfl rfl HR1.out Tryz.underlying144 rfl (by rw[hul];kernel_rfl) ?_)
  refine(pG s w1 hl hb).mono ?_;rintro e w2 ⟨hb2,hres⟩;have HW2:=jz (aB HW1.out hb2);have HZ2:=jz (HZ1.keep hb2);have hlt2:w.heap.size+2≤w2.heap.size:=by have:=hb2.size;omega
  clear hb2 HR1 HZ1 HW1;rcases hres with ⟨hn,rfl⟩|⟨g,p,v,hp,rfl,hs⟩
  · have HN:Hid (fB s=none):=jz (by unfold fB;rw[hn]);clear hn;go_wp2_with (first
      | (refine bld 35 _ rfl rfl rfl n9 ?_)
      | (refine bC 35 (.tmp 3) (.tmp 24) rfl rfl rfl rfl HZ2.out hei rfl he1 ?_;intro w3 hB3 hb3 _ _;have HB3:=jz hB3;have HE3:=jz hb3;clear hB3 hb3))
    have hr:=HB3.range;exact bodyPost_ret (cE rfl _ rfl hr Tryz.underlying35 rfl hei) rfl ⟨HW2.trans (HE3.mono (by omega)),.inl ⟨HN.out,rfl⟩⟩
  · have HP:=jz hp;have HBP:=jz (nC hb hp);have HPL:=jz (B9 hp);obtain⟨A,cap,rfl,hcap,_⟩:=id hs;have HS:=jz hs;clear hp hs hb hl;rcases jb (((p.length:Int)) != 40) with t1|t1
    · have HN:Hid (fB s=none):=jz (by
        unfold fB
        rw[HP.out]
        simp only
        rw[if_neg (fun h=>by rw[h.1] at t1;exact absurd t1 (by decide))])
      go_wp2_with (first
        | (refine bld 35 _ rfl rfl rfl n9 ?_)
        | (refine bC 35 (.tmp 3) (.tmp 24) rfl rfl rfl rfl HZ2.out hei rfl he1 ?_;intro w3 hB3 hb3 _ _;have HB3:=jz hB3;have HE3:=jz hb3;clear hB3 hb3))
      have hr:=HB3.range;exact bodyPost_ret (cE rfl _ rfl hr Tryz.underlying35 rfl hei) rfl ⟨HW2.trans (HE3.mono (by omega)),.inl ⟨HN.out,rfl⟩⟩
    · have h40 : p.length = 40 := by have : (p.length : Int) = 40 := by simpa using t1
                                     omega
      clear t1;have hsp:=ER h40;have HSP:=jz hsp;have H40:=jz h40;have hs2:=HS.out;rw[h40] at hs2 hcap;rw[h40];obtain⟨AD,cD,hD⟩:∃ AD cD,sliced A 32 40 cap 1 = .slice AD 8 cD:=⟨_,_,rfl⟩;obtain⟨AT,cT,hT⟩:∃ AT cT,sliced A 0 32 cap 1 = .slice AT 32 cT:=⟨_,_,rfl⟩;have HSD:Hid (Sn w2 1 (.slice AD 8 cD) (p.drop 32).length (u8s (p.drop 32))):=jz (by
        have h:=hs2.sliced 32 40 cap (by omega) (Nat.le_refl _) hcap
        rw[hD,List.take_of_length_le (by rw[aP,h40];omega)] at h
        rw[hsp.2,show u8s (p.drop 32)=(u8s p).drop 32 by simp[u8s]]
        exact h)
      have HST:Hid (Sn w2 1 (.slice AT 32 cT) 32 (u8s (p.take 32))):=jz (by
        have h:=hs2.sliced 0 32 cap (Nat.zero_le _) (by omega) (by omega)
        rw[hT,Nat.zero_mul,List.drop_zero,Nat.mul_one] at h
        rw[show u8s (p.take 32)=(u8s p).take 32 by simp[u8s]]
        exact h)
      have q1:∀ W,(Instr.slice 78 (.slice A 40 cap) (some (.int .i64 32)) none none).run Tryz.prog W = .ok (.slice AD 8 cD) W:=fun W=>by
        rw[← hD];exact(run_slice_l (P:=Tryz.prog) (w:=W) 78 A 40 cap (by kernel_rfl) .i64 32 (by omega) (by omega)).trans (by kernel_rfl)
      have q2:∀ W,(Instr.slice 78 (.slice A 40 cap) none (some (.int .i64 32)) none).run Tryz.prog W = .ok (.slice AT 32 cT) W:=fun W=>by
        rw[← hT];exact(run_slice_h (P:=Tryz.prog) (w:=W) 78 A 40 cap (by kernel_rfl) .i64 32 (by omega) (by omega)).trans (by kernel_rfl)
      clear hD hT hs2 hsp HS;have HNUM:=jz (wW (.slice AD 8 cD) (p.drop 32) false 8 w2 HSD.out (fun c hc=>HBP.out c (List.mem_of_mem_drop hc)) (by omega) (by omega) (by rw[HSP.out.2];omega));clear h40;go_wp2_with (refine bld 248 _ rfl rfl rfl (yX AD 8 cD) ?_)
      refine HNUM.mono ?_;rintro e w3 ⟨hb3,⟨hf,_⟩|⟨_,_,v2,rfl,hs3⟩⟩
      · rcases hf with h|h
        · cases h
        · rw[HSP.out.2] at h;omega
      obtain⟨B,c,rfl,_⟩:=id hs3;obtain⟨X,hX⟩:=je (beN (p.drop 32));have hX2:beN ((p.drop 32).take 8)=X:=by rw[hX,List.take_of_length_le (by rw[HSP.out.2];omega)]
      have hXlt:X<18446744073709551616:=by
        rw[hX];have:=jO (p.drop 32) (fun c hc=>HBP.out c (List.mem_of_mem_drop hc));rw[HSP.out.2] at this;exact this
      rw[hX2];have HXX:=jz hX;have HXL:=jz hXlt;obtain⟨T,hT⟩:∃ T,IntKind.i64.wrap (X:Int)=T:=⟨_,rfl⟩;have hT64:aK T:=by rw[← hT];unfold IntKind.wrap aK;simp only[IntKind.signed,IntKind.bits];simp;omega
      have HTX:Hid (aS (p.take 32,T)=decide (X≤4611686018427387904)):=jz (by
        unfold aS
        rw[← hT]
        simp only
        by_cases h:X≤4611686018427387904
        · rw[IntWalk.i64_in _ (by omega)];simp;omega
        · rw[decide_eq_false h]
          unfold IntKind.wrap
          simp only[IntKind.signed,IntKind.bits]
          simp
          omega)
      have HTV:Hid (X≤4611686018427387904→T=X):=jz (fun h=>by rw[← hT];exact IntWalk.i64_in _ (by omega));have HZ3:=jz (HZ2.keep hb3);have HW3:=jz (aB HW2.out hb3);have HST3:=jz (HST.below hb3);have hlt3:w.heap.size+2≤w3.heap.size:=by have:=hb3.size;omega
      have hone:(#[Value.slice B (p.drop 32 |>.drop 8).length c,.bool false]:Array Value).all (·.oneCell')=true:=qG _ _ _ _;obtain⟨n8,hn8⟩:=je ((p.drop 32 |>.drop 8).length);rw[← hn8] at hone ⊢;clear hn8 hb3 hs3 HZ2 HW2 HST HSD HNUM hX hX2 hXlt q1;go_upto_region 5 with (first
        | (refine al 248 kO rfl rfl lN ?_)
        | (refine cR (cells:=#[.slice B n8 c,.bool false]) 248 (.tmp 8) (.tmp 30) rfl rfl rfl rfl pX rfl hone ?_;intro w4 hB4 hb4 hs4))
      have HZ4:=jz (HZ3.keep hb4);have HW4:=jz (aB HW3.out hb4);have HST4:=jz (HST3.below hb4);have hlt4:w.heap.size+2≤w4.heap.size:=by have:=hb4.size;omega
      clear hB4 hb4 hs4 HZ3 HW3 HST3;obtain⟨d,hd⟩:=je (p.take 32);have hdl:d.length=32:=by rw[hd];exact HSP.out.1
      have hdb:Bys d:=by rw[hd];exact fun c hc=>HBP.out c (List.mem_of_mem_take hc)
      rw[← hd] at HST4 HTX;have HD:=jz hd;obtain⟨A2,c2,hee,_,_,hx⟩:=id HST4.out;injection hee with hA2 _ _
      subst hA2;obtain⟨b,off,rfl,hcell⟩:=hx (by omega);have HRD:Hid (w4.rangeAt b off (u8s d)):=jz hcell;have HEO:Hid (EntOk (d,T)):=jz ⟨⟨hdl,hdb⟩,hT64⟩;have h33:(aC (d,T)).length=33:=aH _ HEO.out;have HU32:Hid ((Tryz.prog.info? 33).map (·.size)=some (u8s d).length):=jz (by rw[aP,hdl];kernel_rfl);have HBL:=jz (tZ d T hdl);have hE1:(aC (d,T)).toArray.all (·.oneCell')=true:=dK _ _;have hEi:(Tryz.prog.info? 35).map (·.size)=some (aC (d,T)).toArray.size:=by rw[js,h33];kernel_rfl
      have hEz:zE.size=(aC (d,T)).toArray.size:=by rw[hes,js,h33]
      have HRT:=jz (fun W=>lI (d,T) W HEO.out);have HEL:Hid ((aC (d,T)).toArray=(aC (d,T)).toArray):=jz rfl;obtain⟨E,hE⟩:=je ((aC (d,T)).toArray);rw[← hE] at hE1 hEi hEz HBL HRT;have HE:=jz hE;obtain⟨rb,hrb⟩:=je (aS (d,T));rw[← hrb] at HRT HTX;clear hd hdl hdb hcell hx h33 hE hrb hT64 HEL;go_upto_region 6 with (first
        | (refine s2a 33 _ rfl rfl rfl Tryz.underlying33 (by omega) ?_)
        | (refine ld 33 _ rfl rfl rfl HRD.out Tryz.underlying33 rfl HU32.out ?_)
        | (refine bld 35 _ rfl rfl rfl HBL.out ?_)
        | (refine al 35 zE rfl rfl iE ?_)
        | (refine cR (cells:=E) 35 (.tmp 10) (.tmp 38) rfl rfl rfl rfl hEi hEz hE1 ?_;intro w5 hB5 hb5 hs5))
      have HB5:Hid (Blk w5 w4.heap.size 35 E):=jz hB5;have HZ5:=jz (HZ4.keep hb5);have HW5:=jz (aB HW4.out hb5);have hr5:=HB5.range;have HR5:=jz hr5;have hEi2:(Tryz.prog.info? 35).map (·.size)=some E.toList.length:=by rw[Array.length_toList];exact hEi
      clear hB5 hb5 hs5 hr5 HZ4 HW4 HST4 HRD q2 hT;cases rb with
      | false=>
        have HN:Hid (fB s=none):=jz (by
          have hx:¬X≤4611686018427387904:=of_decide_eq_false HTX.symm
          unfold fB
          rw[HP.out]
          simp only
          rw[if_neg (fun h=>hx (by rw[HXX.out];exact h.2))])
        go_wp2_with (first
          | (refine ld 35 _ rfl rfl rfl HR5.out Tryz.underlying35 rfl hEi2 ?_)
          | (go_at_call 70;refine(HRT.out w5).mono ?_;rintro e w6 ⟨rfl,hb6⟩;have HB6:=jz hb6;clear hb6)
          | (refine bld 35 _ rfl rfl rfl n9 ?_)
          | (refine bC 35 (.tmp 3) (.tmp 42) rfl rfl rfl rfl (HZ5.keep HB6.out) hei rfl he1 ?_;intro w7 hB7 hb7 _ _;have HB7:=jz hB7;have HE7:=jz hb7;clear hB7 hb7))
        have hr:=HB7.range;exact bodyPost_ret (cE rfl _ rfl hr Tryz.underlying35 rfl hei) rfl ⟨(aB HW5.out HB6.out).trans (HE7.mono (by omega)),.inl ⟨HN.out,rfl⟩⟩
      | true=>
        have hx:X≤4611686018427387904:=of_decide_eq_true HTX.symm;have HN:Hid (fB s=some (g,(d,T))):=jz (by
          unfold fB
          rw[HP.out]
          simp only
          rw[if_pos ⟨H40.out,by rw[← HXX.out];exact hx⟩,← HXX.out,HTV.out hx,HD.out])
        clear hx;go_upto_region 8 with (first
          | (refine ld 35 _ rfl rfl rfl HR5.out Tryz.underlying35 rfl hEi2 ?_)
          | (go_at_call 70;refine(HRT.out w5).mono ?_;rintro e w6 ⟨rfl,hb6⟩))
        have HB6:Hid (Blk w6 w4.heap.size 35 E):=jz (HB5.keep hb6);have HZ6:=jz (HZ5.keep hb6);have HW6:=jz (aB HW5.out hb6);clear hb6 HB5 HZ5 HW5 HR5;obtain⟨wS,hwS⟩:=je w6.drew;have HBS:Hid (Blk wS w4.heap.size 35 E):=jz (by rw[hwS];exact HB6.out);have HZS:Hid (Blk wS (w.heap.size+1) 35 zE):=jz (by rw[hwS];exact HZ6.out);have HWS:Hid (Below w.heap.size w wS):=jz (by rw[hwS];exact HW6.drew);have HEO1:Hid (∀ u∈E.toList,u.oneCell'=true):=jz (fun u hu=>by have:=hE1;rw[Array.all_eq_true_iff_forall_mem] at this;exact this u (by simpa using hu));clear HB6 HZ6 HW6;refine aQ 5 (fun W=>Blk W w4.heap.size 35 E) (by kernel_rfl) (by kernel_rfl) (by rw[← hwS];exact HBS.out) (fun hH=>?_);rw[← hwS] at hH ⊢;clear hwS;refine jM 0 (.tmp 5) (some 43) (.int .u32 g) hH ?_;simp only[jq];refine jL 1 35 (.tmp 10) (some 44) (cs:=E.toList) (fun _ hX=>hX.range) Tryz.underlying35 rfl hEi2 hH ?_;simp only[jq];refine jT 2 (.assign (.tmp 43)) (some 2) (.int .u32 g) hH ?_;simp only[jq];have hoth:∀ k,k≠w.heap.size+1→(wS.setCells (w.heap.size+1) 0 E.toList).heap[k]? = wS.heap[k]?:=fun k hk=>bA hk _ _ _
        refine jW [3] ?_;refine jR 3 35 (.tmp 3) (.tmp 44) none (cs:=E.toList) (aF HZS.out (by rw[hEz,Array.length_toList])) hEi2 HEO1.out ((hoth _ (by omega)).trans HBS.out) ?_ jN;simp only[jq];refine jW [4] ?_;refine jS 4 (.assign (.const (.bool true))) (some 4) (.bool true) (wS.setCells (w.heap.size+1) 0 E.toList) ((hoth _ (by omega)).trans HBS.out) ?_ jN;simp only[jq];refine wpAnyH_done (by kernel_rfl) ?_ _;have HBZ:Hid (Blk (wS.setCells (w.heap.size+1) 0 E.toList) (w.heap.size+1) 35 E):=jz (by have h:=Blk.setAll E.toList HZS.out (by rw[hEz,Array.length_toList]);rw[Array.toArray_toList] at h;exact h);have HBW:Hid (Below w.heap.size w (wS.setCells (w.heap.size+1) 0 E.toList)):=jz (HWS.trans (aO (by omega) _ _ _).1);obtain⟨wz,hwz⟩:=je ((wS.setCells (w.heap.size+1) 0 E.toList));rw[← hwz] at HBZ HBW ⊢;clear hwz hoth hH;go_wp2_with fail
        have hr7:=HBZ.range;exact bodyPost_ret (cE rfl _ rfl hr7 Tryz.underlying35 rfl hEi2) rfl ⟨HBW.out,.inr ⟨g,_,HN.out,by rw[← HE.out];rfl⟩⟩
theorem nG(st:SSt)(A:Option Addr)(n cap:Nat):(stC st (.slice A n cap)).all (·.oneCell')=true:=all_oneCell_toArray (cs:=[.bool st.1.isSome,.int .u32 (st.1.getD 0:Nat),.slice A n cap]) fun u hu=>by
 simp only[List.mem_cons,List.not_mem_nil,or_false] at hu;rcases hu with rfl|rfl|rfl <;> rfl
theorem LW{P:Program}{ops:Array Oper}{rest:List Oper}{o:Oper}{a:Act}{w:World}{Q:Exit→Act→World→Prop}{t e s bytes:Nat}(T:SlT P t e s bytes)(x:Operand)(ho:o.op = .buildSlice t 1 #[(0,x)])(hw:Region.wanted o (yielded ops a.tmps)=true)
  {cs:List Value} (hx:a.eval x = .agg cs.toArray) (hl:cs.length=s) (hs1:s≤1000)
  (h:wpList P ops Q rest (a.put o.dst (.slice (some ⟨w.heap.size,0,none⟩) 1 1)) (w.alloc (.cells cs.toArray e))):wpList P ops Q (o :: rest) a w:=
 wpList_step fun K hK=>by
  rw[if_pos hw];unfold Oper.wp;have hrun:(execOp a.eval o).run P w = .ok (.value (.slice (some ⟨w.heap.size,0,none⟩) 1 1)) (w.alloc (.cells cs.toArray e)):=by
   have hrun:=lF T cs hl hs1 w;unfold execOp;simp only[ho,Sem.run_bind,List.map_toArray,List.map_cons,List.map_nil,hx,hrun,Result.andThen_ok];rfl
  rw[hrun,Oper.upon_value];exact hK _ _ h
theorem qH:∀ w,(zeroValue 209).run Tryz.prog w = .ok (.agg stZ) w:=fun w=>by unfold stZ;kernel_rfl
theorem GI:Tryz.prog.built 209 []=some stZ:=by unfold stZ;kernel_rfl
theorem JW(g:Nat):Tryz.prog.built 209 [(0,.bool true),(1,.int .u32 g)]=some (stC (some g,[]) (.slice none 0 0)):=by unfold stC;kernel_rfl
theorem stI(st:SSt)(v:Value):(Tryz.prog.info? 209).map (·.size)=some (stC st v).size:=by unfold stC;kernel_rfl
theorem mN(r:RefD)(f:Int):∀(z k:Nat),k<z→(dC r f z).drop k=rdR r (f+k) :: (dC r f z).drop (k+1)
 | 0,k,h=>by omega
 | z+1,0,_=>by rw[dC];simp
 | z+1,k+1,h=>by
  rw[dC,List.drop_succ_cons,List.drop_succ_cons];have:∀(z:Nat) (a:Int),dC r (a+1) z=dC r (a+1) z:=fun _ _=>rfl
  have h1:=mN r (f+1) z k (by omega);rw[h1,show f+1+(k:Int)=f+((k+1:Nat):Int) by omega]
theorem gW(r:RefD):∀(z:Nat) (f:Int),(dC r f z).length=z
 | 0,_=>rfl
 | z+1,f=>by rw[dC,List.length_cons,gW r z]
theorem oD{w:World}{g:Nat}{s:List Int}(h:Blk w g 144 (u8s s).toArray):w.rangeAt g 0 (u8s s):=by
 have h:=h.range
 rwa [jt] at h
theorem JX{s:List Int}(hb:Bys s)(hl:s.length=64){g:Nat}(h:fH s=some g):g<4294967296:=by
 unfold fH at h;cases hp:prs s with
 | none=>rw[hp] at h;cases h
 | some x=>
  obtain⟨g',p⟩:=x;rw[hp] at h;simp only at h;split at h
  ·injection h with h
   subst h;have:=qC hp;rw[this];have:=jO ((s.drop 60).take 4) (fun c hc=>hb c (List.mem_of_mem_drop (List.mem_of_mem_take hc)));rw[List.length_take,List.length_drop,hl] at this;exact this
  ·cases h
structure RS(w wr:World)(m:RM)(r:RefD)(gS g:Nat)(es:List aW)(v:Value):Prop where
 ba:Blk wr w.heap.size 57 (aA m r)
 bz:Blk wr (w.heap.size+1) 209 stZ
 bs:Blk wr gS 209 (stC (some g,es) v)
 own:wr.ownsRow (gS+1) 35 33 v es.length (es.flatMap aC)
 bw:Below w.heap.size w wr
 k:RK wr m r
 ok:∀ q∈es,EntOk q
theorem RS.next{w wr wx wy:World}{m:RM}{r:RefD}{gS g:Nat}{es:List aW}{v v':Value}{q:aW}(h:RS w wr m r gS g es v)(hk:RK w m r)(hg:w.heap.size+2<gS)(hx:Below wr.heap.size wr wx)(hgr:wx.grownBy wy v.ownBlock)(ho:wy.ownsRow (gS+1) 35 33 v' (es.length+1) (es.flatMap aC++aC q))(hq:EntOk q):
  RS w (wy.setCell ⟨gS,2,none⟩ v') m r gS g (es++[q]) v':=by
 have hlt:=h.bs.lt;have hb:Below (gS+1) wr wy:=((hx.mono (by omega)).grown hgr (by have:=hx.size;omega) (fun b e=>(h.own.lt b e).1));have hbw:Below w.heap.size w (wy.setCell ⟨gS,2,none⟩ v'):=(h.bw.trans (hb.mono (by omega))).setCell (by simp;omega) _;refine⟨(h.ba.below hb (by omega)).far (by simp;omega) _,(h.bz.below hb (by omega)).far (by simp;omega) _,(h.bs.below hb (by omega)).set_ 2 v',?_,hbw,hk.keep hbw,fun x hx=>?_⟩
 ·rw[List.length_append,List.flatMap_append];simp only[List.flatMap_cons,List.flatMap_nil,List.append_nil,List.length_cons,List.length_nil];exact bU ho (fun b e=>Below.heap_setCell _ ⟨gS,2,none⟩ _ b (fun e2=>by have:=(ho.lt b e).1;simp at e2;omega))
 ·rcases List.mem_append.1 hx with hx|hx
  ·exact h.ok x hx
  ·rw[List.mem_singleton.1 hx];exact hq
theorem RS.keep{w wr wx:World}{m:RM}{r:RefD}{gS g:Nat}{es:List aW}{v:Value}(h:RS w wr m r gS g es v)(hb:Below wr.heap.size wr wx):RS w wx m r gS g es v:=
 ⟨h.ba.keep hb,h.bz.keep hb,h.bs.keep hb,aX h.own hb,aB h.bw hb,h.k.keep hb,h.ok⟩
theorem rS(m:RM)(r:RefD)(f:Int)(z:Nat)(w:World)(h:RK w m r)(hf:0≤f∧f≤100000)(hz1:1≤z)(hz:z≤10000):
    Calls Tryz.prog 130 #[.agg (aA m r),.int .i64 f,.int .i64 z] w fun e w'=>Below w.heap.size w w'∧∃ v,e = .returned (.agg (stC (bT (none,[]) (dC r f z)) v))∧w'.ownsRow w.heap.size 35 33 v (bT (none,[]) (dC r f z)).2.length ((bT (none,[]) (dC r f z)).2.flatMap aC)∧(∀ q∈(bT (none,[]) (dC r f z)).2,EntOk q):=by
  obtain⟨w1,hw1⟩:=je ((w.alloc (.cells (aA m r) 57)).alloc (.cells stZ 209));have hA1:Blk w1 w.heap.size 57 (aA m r):=by rw[hw1];exact(Blk.new _ _ _).alloc _
  have hZ1:Blk w1 (w.heap.size+1) 209 stZ:=by rw[hw1];exact Blk.newAt _ _ _ _ (by simp)
  have hb1:Below w.heap.size w w1:=by rw[hw1];exact aB (aN _ _) (aN _ _)
  have hsz1:w1.heap.size=w.heap.size+2:=by rw[hw1];simp
  have hlen:(Tryz.prog.info? 57).map (·.size)=some (aA m r).toList.length:=bG;have HA1:=jz hA1;have HZ1:=jz hZ1;have HW1:=jz hb1;have HK:=jz h;have HSEC:Hid (∀ a,Sec (rdR r a)):=jz (qF h.ok);have HU:Hid (∀ s,Sec s→(Tryz.prog.info? 144).map (·.size)=some (u8s s).length):=jz (fun s hs=>by rw[aG hs];kernel_rfl);have HST:Hid (∀ s,Sec s→(z64.size=(u8s s).toArray.size)∧((u8s s).toArray.all (·.oneCell')=true)∧(Tryz.prog.info? 144).map (·.size)=some (u8s s).toArray.size):=jz (fun s hs=>⟨by rw[cN];simp[aG hs],cS s,by simp only[js,aG hs];kernel_rfl⟩);have hf64:aK f:=⟨by omega,by omega⟩;have HRD:=jz (fun W (hb:Below w.heap.size w W) a ha=>rR m r a W (HK.keep hb) ha);clear hA1 hZ1 hb1 h;have hr1:=HA1.range;have HR1:=jz hr1;obtain⟨s0,hs0⟩:=je (rdR r f);have HS0:=jz (HSEC.out f);have HR0:=jz (HRD.out w1 HW1.out f hf64);rw[← hs0] at HS0 HR0;have hrs:dC r f z=s0 :: (dC r f z).drop 1:=by
    have:=mN r f z 0 (by omega);rw[List.drop_zero,show f+((0:Nat):Int)=f by omega,← hs0] at this;exact this
  have HRS:=jz hrs;have hst0:=HST.out _ HS0.out;have HST0:=jz hst0;obtain⟨c0,hc0⟩:=je (wQ r f);rw[← hc0] at HR0;clear hr1 hs0 hrs hst0 hc0;go_enter Tryz.func130,Tryz.ntmps130
  go_upto_region 1 with (refine al 209 stZ rfl rfl qH ?_)
  rw[← hw1];clear hw1;go_wp2_with (refine ld 57 _ rfl rfl rfl HR1.out Tryz.underlying57 rfl hlen ?_)
  refine HR0.mono ?_;rintro e w2 ⟨rfl,hb2⟩;have HB2:=jz hb2;clear hb2;go_upto_region 2 with (first
    | (refine al 144 z64 rfl rfl cK ?_)
    | (refine cR (cells:=(u8s s0).toArray) 144 (.tmp 7) (.tmp 22) rfl rfl rfl rfl HST0.out.2.2 HST0.out.1 HST0.out.2.1 ?_;intro w3 hB3 hb3 hs3))
  have HR3:Hid (w3.rangeAt w2.heap.size 0 (u8s s0)):=jz (oD hB3);have HA3:=jz ((HA1.keep HB2.out).keep hb3);have HZ3:=jz ((HZ1.keep HB2.out).keep hb3);have HW3:=jz (aB (aB HW1.out HB2.out) hb3);have hlt3:w.heap.size+2<w3.heap.size:=by have:=HB2.size;omega
  clear hB3 hb3 hs3 HA1 HZ1 HW1 HB2 HR1 HR0;have HU0:=jz (HU.out _ HS0.out);go_wp2_with (refine ld 144 _ rfl rfl rfl HR3.out Tryz.underlying144 rfl HU0.out ?_)
  refine(wV s0 w3 HS0.out.1 HS0.out.2).mono ?_;rintro e w4 ⟨hb4,⟨hp,rfl⟩|⟨g,hp,rfl⟩⟩
  · have HV:Hid (bT (none,[]) (dC r f z)=(none,[])):=jz (by
      rw[HRS.out,bT]
      unfold eM
      simp only[hp,Option.map_none])
    have HZ4:=jz (HZ3.keep hb4);have HW4:=jz (aB HW3.out hb4);clear hp hb4;go_wp2_with (first
      | (refine bld 209 _ rfl rfl rfl GI ?_)
      | (refine bC (cells:=stZ) 209 (.tmp 6) (.tmp 31) rfl rfl rfl rfl HZ4.out (by kernel_rfl) rfl CF ?_;intro w5 hB5 hb5 _ _;have HB5:=jz hB5;have HE5:=jz hb5;clear hB5 hb5))
    have hbw:Below w.heap.size w w5:=HW4.trans (HE5.mono (by omega));refine bodyPost_ret (results_cell_row rfl _ _ (w.heap.size+1) 209 _ (0,0) _ rfl HB5.out Tryz.underlying209 rfl (by kernel_rfl)) rfl ⟨hbw,.slice none 0 0,?_⟩;rw[HV.out];exact⟨rfl,World.ownsRow_nil _ _ _ _,fun q hq=>by cases hq⟩
  · have hgl:=JX HS0.out.2 HS0.out.1 hp;have HV:Hid (bT (none,[]) (dC r f z)=bT (some g,[]) ((dC r f z).drop 1)):=jz (by
      rw[HRS.out,bT]
      unfold eM
      simp only[hp,Option.map_some]
      simp)
    have HA4:=jz (HA3.keep hb4);have HZ4:=jz (HZ3.keep hb4);have HW4:=jz (aB HW3.out hb4);have hlt4:w.heap.size+2<w4.heap.size:=by have:=hb4.size;omega
    have hone:=nG (some g,[]) none 0 0;clear hp hb4 HA3 HZ3 HW3 HR3;go_upto_region 6 with (first
      | (refine bld 209 _ rfl rfl rfl (JW g) ?_)
      | (refine al 209 stZ rfl rfl qH ?_)
      | (refine cR (cells:=stC (some g,[]) (.slice none 0 0)) 209 (.tmp 11) (.tmp 33) rfl rfl rfl rfl (stI _ _) rfl hone ?_;intro w5 hB5 hb5 hs5))
    obtain⟨gS,hgS⟩:=je w4.heap.size;rw[← hgS] at hB5 ⊢;have HRSS:Hid (RS w w5 m r gS g [] (.slice none 0 0)):=jz ⟨HA4.keep hb5,HZ4.keep hb5,hB5,World.ownsRow_nil _ _ _ _,aB HW4.out hb5,(HK.keep HW4.out).keep hb5,fun q hq=>by cases hq⟩;have hgS2:w.heap.size+2<gS:=by omega
    clear hB5 hb5 hs5 HA4 HZ4 HW4 hgS hlt4 hlt3;go_wp2_with fail
    go_loopw [12] (fun i wr=>∃ k:Nat,1≤k∧k≤z∧i = .int .i64 (k:Int)∧∃(es:List aW) (A:Option Addr) (c:Nat),es.length<k∧Hid (RS w wr m r gS g es (.slice A es.length c))∧Hid (bT (none,[]) (dC r f z)=bT (some g,es) ((dC r f z).drop k))) (fun i _=>z-(intOf i).toNat)
    case atStart=>exact⟨1,Nat.le_refl _,hz1,rfl,[],none,0,by simp,HRSS,HV⟩
    case round=>
      obtain⟨k,hk1,hk2,rfl,es,A,c,hel,HX,HVK⟩:=hrel;have hfix:Below w.heap.size w wr:=HX.bw;have hszr:=hfix.size;rcases Nat.lt_or_ge k z with hlt|hge
      · have hkz:(k:Int)<z:=by omega
        have hk0:(0:Int)≤k:=by omega
        have hk10:(k:Int)≤10000:=by omega
        obtain⟨y,hy⟩:=je (f+(k:Int));have hy64:aK y:=⟨by omega,by omega⟩;have HY:Hid (IntKind.i64.wrap (f+(k:Int))=y):=jz (by rw[hy];exact IntWalk.i64_in _ (by omega));have HRK:=jz (rR m r y wr HX.k hy64);have HSK:=jz (HSEC.out y);have HDK:=jz (mN r f z k hlt);rw[← hy] at HDK;obtain⟨s,hs⟩:=je (rdR r y);obtain⟨cy,hcy⟩:=je (wQ r y);rw[← hs] at HRK HSK HDK;rw[← hcy] at HRK;have HSTK:=jz (HST.out _ HSK.out);have HUK:=jz (HU.out _ HSK.out);have hr1:=HX.ba.range;have HR1:=jz hr1;have hyy:=HY.out;clear hy hs hcy hr1 hfix;go_wp2_with (refine ld 57 _ rfl rfl rfl HR1.out Tryz.underlying57 rfl hlen ?_)
        refine HRK.mono ?_;rintro e w6 ⟨rfl,hb6⟩;have HX6:=jz (HX.keep hb6);clear hb6;go_upto_region 10 with (first
          | (refine al 144 z64 rfl rfl cK ?_)
          | (refine cR (cells:=(u8s s).toArray) 144 (.tmp 13) (.tmp 45) rfl rfl rfl rfl HSTK.out.2.2 HSTK.out.1 HSTK.out.2.1 ?_;intro w7 hB7 hb7 hs7))
        have HR7:Hid (w7.rangeAt w6.heap.size 0 (u8s s)):=jz (oD hB7);have HX7:=jz (HX6.keep hb7);clear hB7 hb7 hs7 HX6 HR1 HRK hyy HY;go_wp2_with (refine ld 144 _ rfl rfl rfl HR7.out Tryz.underlying144 rfl HUK.out ?_)
        refine(yY s w7 HSK.out.1 HSK.out.2).mono ?_;rintro e w8 ⟨hb8,hres⟩;have HX8:=jz (HX7.keep hb8);clear hb8 HX7 HR7;have hst1:=nG (some g,es) A es.length c;have hstI:=stI (some g,es) (.slice A es.length c);have hstL:(Tryz.prog.info? 209).map (·.size)=some (stC (some g,es) (.slice A es.length c)).toList.length:=stI _ _;rcases hres with ⟨hn,rfl⟩|⟨g',q,hp,rfl⟩
        · have HV2:Hid (bT (none,[]) (dC r f z)=(some g,es)):=jz (by
            rw[HVK.out,HDK.out,bT]
            unfold eM
            simp only[hn])
          have hei:(Tryz.prog.info? 35).map (·.size)=some zE.size:=by rw[dR];kernel_rfl
          clear hn;go_upto_region 11 with (first
            | (refine al 35 zE rfl rfl iE ?_)
            | (refine cR (cells:=zE) 35 (.tmp 16) (.tmp 51) rfl rfl rfl rfl hei rfl vT ?_;intro w9 hB9 hb9 hs9))
          have HX9:=jz (HX8.keep hb9);have HR9:=jz HX9.bs.range;clear hB9 hb9 hs9 HX8;go_wp2_with (first
            | (refine ld 209 _ rfl rfl rfl HR9.out Tryz.underlying209 rfl hstL ?_)
            | (refine bC (cells:=stC (some g,es) (.slice A es.length c)) 209 (.tmp 6) (.tmp 60) rfl rfl rfl rfl HX9.bz hstI rfl hst1 ?_;intro w10 hB10 hb10 ho10 _;have HB10:=jz hB10;have HE10:=jz hb10;have HO10:=jz ho10;clear hB10 hb10 ho10))
          have hbw:Below w.heap.size w w10:=HX9.bw.trans (HE10.mono (by omega));refine bodyPost_ret (results_cell_row rfl _ _ (w.heap.size+1) 209 _ (0,0) _ rfl HB10.out Tryz.underlying209 rfl hstI) rfl ⟨hbw,.slice A es.length c,?_⟩;rw[HV2.out];exact⟨rfl,dI (bU HX9.own (fun b e=>HO10.out b (by have:=(HX9.own.lt b e).1;omega))) (by omega),HX9.ok⟩
        · have HQ:=jz (CE HSK.out.2 hp);have h33:=aH q HQ.out;have hqi:(Tryz.prog.info? 35).map (·.size)=some (aC q).toArray.size:=by rw[js,h33];kernel_rfl
          have hqz:zE.size=(aC q).toArray.size:=by rw[dR,js,h33]
          have hq1:(aC q).toArray.all (·.oneCell')=true:=dK _ _;have hql:(Tryz.prog.info? 35).map (·.size)=some (aC q).length:=by rw[h33];kernel_rfl
          have HP:=jz hp;clear hp;go_upto_region 11 with (first
            | (refine al 35 zE rfl rfl iE ?_)
            | (refine cR (cells:=(aC q).toArray) 35 (.tmp 16) (.tmp 51) rfl rfl rfl rfl hqi hqz hq1 ?_;intro w9 hB9 hb9 hs9))
          have HX9:=jz (HX8.keep hb9);have HQ9:Hid (w9.rangeAt w8.heap.size 0 (aC q)):=jz (by have h:=Blk.range (t:=35) hB9;rwa [jt] at h);clear hB9 hb9 hs9 HX8;rcases jb ((g':Int) != (g:Int)) with t1|t1
          · have HV2:Hid (bT (none,[]) (dC r f z)=(some g,es)):=jz (by
              have hne:g'≠g:=fun e=>by rw[e] at t1;simp at t1
              rw[HVK.out,HDK.out,bT]
              unfold eM
              simp only[HP.out,if_neg hne])
            have HR9:=jz HX9.bs.range;go_wp2_with (first
              | (refine ld 209 _ rfl rfl rfl HR9.out Tryz.underlying209 rfl hstL ?_)
              | (refine bC (cells:=stC (some g,es) (.slice A es.length c)) 209 (.tmp 6) (.tmp 60) rfl rfl rfl rfl HX9.bz hstI rfl hst1 ?_;intro w10 hB10 hb10 ho10 _;have HB10:=jz hB10;have HE10:=jz hb10;have HO10:=jz ho10;clear hB10 hb10 ho10))
            have hbw:Below w.heap.size w w10:=HX9.bw.trans (HE10.mono (by omega));refine bodyPost_ret (results_cell_row rfl _ _ (w.heap.size+1) 209 _ (0,0) _ rfl HB10.out Tryz.underlying209 rfl hstI) rfl ⟨hbw,.slice A es.length c,?_⟩;rw[HV2.out];exact⟨rfl,dI (bU HX9.own (fun b e=>HO10.out b (by have:=(HX9.own.lt b e).1;omega))) (by omega),HX9.ok⟩
          · have hgg : g' = g := by have : (g' : Int) = g := by simpa using t1
                                    omega
            have HV2:Hid (bT (none,[]) (dC r f z)=bT (some g,es++[q]) ((dC r f z).drop (k+1))):=jz (by
              rw[HVK.out,HDK.out,bT]
              unfold eM
              simp only[HP.out,if_pos hgg])
            have c2:=HX9.bs.cell 2;have f2:=HX9.bs.frozen 2;simp only[stC,List.getElem?_toArray,List.getElem?_cons_zero,List.getElem?_cons_succ] at c2;have hgw:gS<w9.heap.size:=HX9.bs.lt;have HOW:=jz (World.ownsRow.alloc HX9.own (.cells (aC q).toArray 35));have HNEW:Hid (Sn (w9.alloc (.cells (aC q).toArray 35)) 33 (.slice (some ⟨w9.heap.size,0,none⟩) 1 1) 1 (aC q)):=jz (by have h:=Sn.new w9 (aC q).toArray 35 33 1 (by rw[js,h33]);rwa [jt] at h);have HBE:Hid (Below w9.heap.size w9 (w9.alloc (.cells (aC q).toArray 35))):=jz (aN _ _);have hqm:∀ u∈aC q,u.oneCell'=true:=fun u hu=>by have:=hq1;rw[Array.all_eq_true_iff_forall_mem] at this;exact this u (by simpa using hu)
            have HQM:=jz hqm;clear hgg hqm hqz hqi hq1;go_wp2_with (first
              | (refine ld 35 _ rfl rfl rfl HQ9.out Tryz.underlying35 rfl hql ?_)
              | (refine LW fQ _ rfl rfl rfl h33 (by decide) ?_)
              | (at_builtin;refine app fQ (.tmp 62) (.tmp 64) rfl rfl rfl HOW.out rfl HNEW.out HQM.out (by unfold maxLen;omega) (by omega) (by simp;omega) ?_;intro v11 w11 hown hgrow _;obtain⟨A11,c11,rfl,_,_⟩:=aU hown;have HO11:=jz hown;have HG11:=jz hgrow;have hc11:w11.cell? ⟨gS,2,none⟩=some (.slice A es.length c):=hgrow.cell ((Below.cell' HBE.out c2)) (fun e=>by have:=(HX9.own.lt gS e.symm).1;omega);have hf11:w11.frozen? ⟨gS,2,none⟩=false:=(Blk.frozen (t:=209) (cs:=stC (some g,es) (.slice A es.length c)) ((hgrow.block gS (by simp;omega) (fun e=>by have:=(HX9.own.lt gS e.symm).1;omega)).trans (HX9.bs.keep HBE.out)) 2);clear hown hgrow))
            have HXN:=jz (HX9.next HK.out hgS2 HBE.out HG11.out HO11.out HQ.out);exact⟨⟨k+1,by omega,by omega,by go_num,es++[q],A11,c11,by rw[List.length_append];simp;omega,by rw[List.length_append];exact HXN,HV2⟩,by simp[intOf];omega⟩
      · obtain rfl:k=z:=by omega
        have HV2:Hid (bT (none,[]) (dC r f k)=(some g,es)):=jz (by rw[HVK.out,List.drop_of_length_le (by rw[gW];exact Nat.le_refl _)];rfl);have hst1:=nG (some g,es) A es.length c;have hstI:=stI (some g,es) (.slice A es.length c);have hstL:(Tryz.prog.info? 209).map (·.size)=some (stC (some g,es) (.slice A es.length c)).toList.length:=stI _ _;have HR9:=jz HX.bs.range;go_wp2_with (first
          | (refine ld 209 _ rfl rfl rfl HR9.out Tryz.underlying209 rfl hstL ?_)
          | (refine bC (cells:=stC (some g,es) (.slice A es.length c)) 209 (.tmp 6) (.tmp 67) rfl rfl rfl rfl HX.bz hstI rfl hst1 ?_;intro w10 hB10 hb10 ho10 _;have HB10:=jz hB10;have HE10:=jz hb10;have HO10:=jz ho10;clear hB10 hb10 ho10))
        have hbw:Below w.heap.size w w10:=HX.bw.trans (HE10.mono (by omega));refine bodyPost_ret (results_cell_row rfl _ _ (w.heap.size+1) 209 _ (0,0) _ rfl HB10.out Tryz.underlying209 rfl hstI) rfl ⟨hbw,.slice A es.length c,?_⟩;rw[HV2.out];exact⟨rfl,dI (bU HX.own (fun b e=>HO10.out b (by have:=(HX.own.lt b e).1;omega))) (by omega),HX.ok⟩
end
section
open Go.RowKit
section
variable {P : Program} {ops : Array Oper} {Q : Exit → Act → World → Prop} {S : World → Prop} {a : Act} {w : World} {listed : Array Bool} {fuel : Nat}
theorem p1(a:Act)(t:Tmp)(v:Value):a.put (some t) v={ a with tmps:=a.tmps.setIfInBounds t v }:=rfl
theorem p5(a:Act)(v:Value):a.put none v=a:=rfl
theorem p2{α:Type}(l:List α)(i:Nat)(v:α):l.toArray.setIfInBounds i v=(l.set i v).toArray:=List.setIfInBounds_toArray ..
theorem p3{α:Type}(x v:α)(l:List α):(x :: l).set 0 v=v :: l:=rfl
theorem p4{α:Type}(x v:α)(l:List α)(n:Nat):(x :: l).set (n+1) v=x :: l.set n v:=rfl
def kOk(ops:Array Oper)(listed:Array Bool)(a:Act)(i:Nat)(want:Bool):Bool:=
 Region.noSelect ops && Region.free .any ops listed i && (Region.ready .any ops listed).contains i && ((ops[i]?).map (fun o=>Region.wanted o (yielded ops a.tmps))).any (· == want)
theorem kOk.out{i:Nat}{b:Bool}{o:Oper}(ho:ops[i]? = some o)(h:kOk ops listed a i b=true):Region.noSelect ops=true∧Region.free .any ops listed i=true∧(Region.ready .any ops listed).contains i=true∧Region.wanted o (yielded ops a.tmps)=b:=by
 unfold kOk at h;simp only[Bool.and_eq_true,ho,Option.map_some,Option.any_some,beq_iff_eq] at h;exact⟨h.1.1.1,h.1.1.2,h.1.2,h.2⟩
theorem kT(i:Nat)(dst:Option Tmp)(v:Value){o:Oper}(ho:ops[i]? = some o:=by rfl)(hdst:o.dst=dst:=by rfl)(hc:kOk ops listed a i true=true:=by kernel_rfl)
  (hy:∀ w,S w→(execOp a.eval o).run P w = .ok (.value v) w:=by intro w hS;unfold execOp;go_simp)
  (hQ:∀ c a w,Q (.panic c) (a.put dst v) w→Q (.panic c) a w:=by exact fun _ _ _ h=>h) (hS:S w:=by assumption)
  (h:wpAnyH P .any ops Q S fuel (listed.setIfInBounds i true) (a.put dst v) w):wpAnyH P .any ops Q S (fuel+1) listed a w:=by
 subst hdst;exact
  have k:=kOk.out ho hc
  wpAnyH_take ho k.1 k.2.1 k.2.2.1 hQ (.inl ⟨k.2.2.2,hy⟩) hS h
theorem kX(i:Nat)(dst:Option Tmp){o:Oper}(ho:ops[i]? = some o:=by rfl)(hdst:o.dst=dst:=by rfl)(hc:kOk ops listed a i false=true:=by kernel_rfl)
  (hQ:∀ c a w,Q (.panic c) (a.put dst undef) w→Q (.panic c) a w:=by exact fun _ _ _ h=>h) (hS:S w:=by assumption)
  (h:wpAnyH P .any ops Q S fuel (listed.setIfInBounds i true) (a.put dst undef) w):wpAnyH P .any ops Q S (fuel+1) listed a w:=by
 subst hdst;exact
  have k:=kOk.out ho hc
  wpAnyH_take ho k.1 k.2.1 k.2.2.1 hQ (.inr ⟨k.2.2.2,rfl⟩) hS h
theorem kM(i:Nat)(dst:Option Tmp)(v:Value){o:Oper}{x:Operand}(ho:ops[i]? = some o:=by rfl)(hdst:o.dst=dst:=by rfl)(hop:o.op = .move x:=by rfl)(hx:a.eval x=v:=by kernel_rfl)(hc:kOk ops listed a i true=true:=by kernel_rfl)
  (hQ:∀ c a' w,Q (.panic c) (a'.put dst v) w→Q (.panic c) a' w:=by exact fun _ _ _ h=>h) (hS:S w:=by assumption)
  (h:wpAnyH P .any ops Q S fuel (listed.setIfInBounds i true) (a.put dst v) w):wpAnyH P .any ops Q S (fuel+1) listed a w:=by
 subst hdst;exact
  have k:=kOk.out ho hc
  wpAnyH_take ho k.1 k.2.1 k.2.2.1 hQ (.inl ⟨k.2.2.2,fun w _=>by unfold execOp;simp only[hop,hx,Sem.run_pure]⟩) hS h
theorem oE(w:World)(ad:Addr)(ty:TypeId)(v:Value)(hu:((P.underlying ty).map (·.isRow))=some false)(hc:w.cell? ad=some v):(loadVar ty ad).run P w = .ok v w:=by
 cases hd:P.underlying ty with
 | none=>rw[hd] at hu;cases hu
 | some d=>
  rw[hd] at hu;have hagg:(isAgg ty).run P w = .ok false w:=by
   unfold isAgg;rw[Sem.run_bind,run_underlying hd w];cases d <;> simp_all
  simp[loadVar,Sem.run_bind,hagg,hc]
theorem kC(i:Nat)(dst:Option Tmp){v:Value}{ad:Addr}(hv:∀ w,S w→w.cell? ad=some v){o:Oper}{ty:TypeId}{x:Operand}(ho:ops[i]? = some o:=by rfl)(hdst:o.dst=dst:=by rfl)(hop:o.op = .load ty x:=by rfl)(hx:a.eval x = .pointer (some ad):=by kernel_rfl)(hu:((P.underlying ty).map (·.isRow))=some false:=by kernel_rfl)(hc:kOk ops listed a i true=true:=by kernel_rfl)
  (hQ:∀ c a w,Q (.panic c) (a.put dst v) w→Q (.panic c) a w:=by exact fun _ _ _ h=>h) (hS:S w:=by assumption)
  (h:wpAnyH P .any ops Q S fuel (listed.setIfInBounds i true) (a.put dst v) w):wpAnyH P .any ops Q S (fuel+1) listed a w:=by
 subst hdst;exact
  have k:=kOk.out ho hc
  wpAnyH_take ho k.1 k.2.1 k.2.2.1 hQ (.inl ⟨k.2.2.2,fun w hw=>by
   unfold execOp
   simp only[hop,hx,Instr.loadAt,Instr.sureAddr,Sem.run_bind,Sem.run_pure,Result.andThen_ok,oE w ad ty v hu (hv w hw)]⟩) hS h
theorem kL(i:Nat)(dst:Option Tmp){cs:List Value}{b off n:Nat}(hr:∀ w,S w→w.rangeAt b off cs)(hn:cs.length=n){o:Oper}{ty:TypeId}{x:Operand}(ho:ops[i]? = some o:=by rfl)(hdst:o.dst=dst:=by rfl)(hop:o.op = .load ty x:=by rfl)(hx:a.eval x = .pointer (some ⟨b,off,none⟩):=by kernel_rfl)(hu:((P.underlying ty).map (·.isRow))=some true:=by kernel_rfl)(hi:(P.info? ty).map (·.size)=some n:=by kernel_rfl)(hc:kOk ops listed a i true=true:=by kernel_rfl)
  (hQ:∀ c a w,Q (.panic c) (a.put dst (.agg cs.toArray)) w→Q (.panic c) a w:=by exact fun _ _ _ h=>h) (hS:S w:=by assumption)
  (h:wpAnyH P .any ops Q S fuel (listed.setIfInBounds i true) (a.put dst (.agg cs.toArray)) w):wpAnyH P .any ops Q S (fuel+1) listed a w:=by
 subst hdst;have k:=kOk.out ho hc;cases hd:P.underlying ty with
 | none=>rw[hd] at hu;cases hu
 | some d=>
  rw[hd] at hu;exact wpAnyH_take ho k.1 k.2.1 k.2.2.1 hQ (.inl ⟨k.2.2.2,fun w hw=>by
   unfold execOp
   simp only[hop,hx,Instr.loadAt,Instr.sureAddr,Sem.run_bind,Sem.run_pure,Result.andThen_ok,run_loadVar_mid w b off ty cs d (hr w hw) hd (by simpa using hu) (by rw[hn];exact hi)]⟩) hS h
theorem kB(i:Nat)(dst:Option Tmp){vs:List (Nat×Value)}{cells:Array Value}{t:TypeId}(hb:P.built t vs=some cells){o:Oper}{parts:Array (Nat×Operand)}(ho:ops[i]? = some o:=by rfl)(hdst:o.dst=dst:=by rfl)(hop:o.op = .build t parts:=by rfl)(hv:(parts.toList.map fun(i,x)=>(i,a.eval x))=vs:=by rfl)(hc:kOk ops listed a i true=true:=by kernel_rfl)
  (hQ:∀ c a w,Q (.panic c) (a.put dst (.agg cells)) w→Q (.panic c) a w:=by exact fun _ _ _ h=>h) (hS:S w:=by assumption)
  (h:wpAnyH P .any ops Q S fuel (listed.setIfInBounds i true) (a.put dst (.agg cells)) w):wpAnyH P .any ops Q S (fuel+1) listed a w:=by
 subst hdst;exact
  have k:=kOk.out ho hc
  wpAnyH_take ho k.1 k.2.1 k.2.2.1 hQ (.inl ⟨k.2.2.2,fun w hw=>by
   rw[← Array.toList_map] at hv
   unfold execOp
   simp only[hop,Sem.run_bind,run_build w t _ cells (by rw[hv];exact hb),Result.andThen_ok]
   rfl⟩) hS h
def kOne(ops:Array Oper)(listed:Array Bool)(a:Act)(i:Nat):Bool:=(Region.ready .any ops listed == [i]) && ((ops[i]?).map (fun o=>Region.wanted o (yielded ops a.tmps))).any (· == true)
theorem kOne.out{i:Nat}{o:Oper}(ho:ops[i]? = some o)(h:kOne ops listed a i=true):Region.ready .any ops listed=[i]∧Region.wanted o (yielded ops a.tmps)=true:=by
 unfold kOne at h;simp only[Bool.and_eq_true,ho,Option.map_some,Option.any_some,beq_iff_eq] at h;exact h
theorem kF(i:Nat)(dst:Option Tmp){o:Oper}{f:FuncId}{args:Array Value}(h:Calls P f args w fun e w'=>∃ v,e = .returned v∧S w'∧(S w'→wpAnyH P .any ops Q S fuel (listed.setIfInBounds i true) (a.put dst v) w'))(ho:ops[i]? = some o:=by rfl)(hdst:o.dst=dst:=by rfl)(hc:kOne ops listed a i=true:=by kernel_rfl)
  (hent:(execOp a.eval o).run P w = .ok (.enter f args) w:=by unfold execOp;go_simp):wpAnyH P .any ops Q S (fuel+1) listed a w:=by
 subst hdst;have k:=kOne.out ho hc;refine wpAnyH_ready k.1 (by simp) (AllReadyH.cons ho (fun K hK=>?_) jN);rw[if_pos k.2];unfold Oper.wp;rw[hent,Oper.upon_enter];refine h.mono ?_;rintro e w' ⟨v,rfl,hS,hk⟩;exact hK.out _ _ hS hk
theorem kR(i:Nat)(dst:Option Tmp){cs:List Value}{b off n:Nat}(ht:w.there b off n)(hn:cs.length=n)(h1:∀ u∈cs,u.oneCell'=true)(hS:S (w.setCells b off cs)){o:Oper}{ty:TypeId}{x y:Operand}(ho:ops[i]? = some o:=by rfl)(hdst:o.dst=dst:=by rfl)(hop:o.op = .store ty x y:=by rfl)(hx:a.eval x = .pointer (some ⟨b,off,none⟩):=by kernel_rfl)(hy:a.eval y = .agg cs.toArray:=by kernel_rfl)(hi:(P.info? ty).map (·.size)=some n:=by kernel_rfl)(hc:kOne ops listed a i=true:=by kernel_rfl)
  (h:wpAnyH P .any ops Q S fuel (listed.setIfInBounds i true) (a.put dst undef) (w.setCells b off cs)):wpAnyH P .any ops Q S (fuel+1) listed a w:=by
 subst hdst;have k:=kOne.out ho hc;refine wpAnyH_ready k.1 (by simp) (AllReadyH.cons ho (fun K hK=>?_) jN);rw[if_pos k.2];refine wp_store_mid ty x y hop b off cs.toArray hx hy (by rw[js,hn];exact ht) (by rw[js,hn];exact hi) (all_oneCell_toArray h1) ?_;rw[jt];exact hK.out _ _ hS (fun _=>h)
theorem kZ{n:Nat}(S:World→Prop){id:Nat}(hS:S w.drew)(hm:P.follows .mixedOrders=true:=by kernel_rfl)(hn:ops.size=n:=by kernel_rfl)
  (h:S w.drew→wpAnyH P .any ops Q S n (Array.replicate n false) a w.drew):(Code.region id ops true).wp P Q a w:=by
 subst hn;exact wp_region_held_drew hm hS h
theorem kE{listed:Array Bool}(hr:Region.ready .any ops listed=[]:=by kernel_rfl)(h:Q .normal a w):wpAnyH P .any ops Q S fuel listed a w:=wpAnyH_done hr h _
end
end
section
open Go.RowKit
attribute [local irreducible] wpQuiet wpAnyH
theorem rT{P:Program}{w:World}{fn:Func}{p u:Tmp}{ty ty':TypeId}(h:fn.results=#[.cell p ty,.cell u ty'])(tmps:Array Value){b b':Nat}{cs ds:List Value}{d d':TypeDesc}(hp:tmps.getD p undef = .pointer (some ⟨b,0,none⟩))(hp':tmps.getD u undef = .pointer (some ⟨b',0,none⟩))(hc:w.rangeAt b 0 cs)(hc':w.rangeAt b' 0 ds)
  (hu:P.underlying ty=some d) (hd:d.isRow=true) (hi:(P.info? ty).map (·.size)=some cs.length) (hu':P.underlying ty'=some d') (hd':d'.isRow=true) (hi':(P.info? ty').map (·.size)=some ds.length):(results fn tmps).run P w = .ok (.tuple #[.agg cs.toArray,.agg ds.toArray]) w:=by
 have h1:tmps[p]?.getD undef = .pointer (some ⟨b,0,none⟩):=by simpa using hp
 have h2:tmps[u]?.getD undef = .pointer (some ⟨b',0,none⟩):=by simpa using hp'
 simp[results,h,h1,h2,asAddr,Sem.run_bind,Result.andThen,run_loadVar_mid w b 0 ty cs d hc hu hd hi,run_loadVar_mid w b' 0 ty' ds d' hc' hu' hd' hi']
theorem yZ(n:Nat)(w:World)(hn:n≤1000000):
  Calls Tryz.prog 65 #[.int .i64 n] w fun e w'=>e = .returned (.tuple #[.agg #[.int .i64 0,.int .i64 ((n/2:Nat):Int)],.agg #[.int .i64 ((n/2:Nat):Int),.int .i64 ((n/2:Nat):Int)]])∧Below w.heap.size w w':=by
 have hn1:(n:Int)≤1000000:=by omega
 go_enter Tryz.func65,Tryz.ntmps65
 go_wp2_with fail
 have e:((n/2:Nat):Int)=(n:Int)/2:=by simp
 rw[e];have hB1:=(Blk.new w 106 #[.int .i64 0,.int .i64 ((n:Int)/2)]).alloc (.cells #[.int .i64 ((n:Int)/2),.int .i64 ((n:Int)/2)] 106);have hB2:=Blk.newAt (w.alloc (.cells #[.int .i64 0,.int .i64 ((n:Int)/2)] 106)) 106 #[.int .i64 ((n:Int)/2),.int .i64 ((n:Int)/2)] (w.heap.size+1) (by simp);have hbF:Below w.heap.size w ((w.alloc (.cells #[.int .i64 0,.int .i64 ((n:Int)/2)] 106)).alloc (.cells #[.int .i64 ((n:Int)/2),.int .i64 ((n:Int)/2)] 106)):=((Below.refl _ w).alloc (Nat.le_refl _) _).alloc (by simp) _;exact bodyPost_ret (rT rfl _ rfl rfl hB1.range hB2.range Tryz.underlying106 rfl (by kernel_rfl) Tryz.underlying106 rfl (by kernel_rfl)) rfl ⟨rfl,hbF⟩
end
end Go.Proofs.YtombncedfleljaaGreat
