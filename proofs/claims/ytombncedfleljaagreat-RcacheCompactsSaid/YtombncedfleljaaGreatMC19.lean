import Derived.Test.YtombncedfleljaaGreatMC18
set_option linter.unusedSimpArgs false
set_option maxRecDepth 100000
set_option maxHeartbeats 40000000
namespace Go.Proofs.YtombncedfleljaaGreat
open Go.RowKit
attribute [local irreducible] wpQuiet wpAnyH
def dO:RefD→Int→List (List Int)→RefD×Int
 | r,_,[]=>(bL r,bX r)
 | r,a,s :: L=>if aV r a=0 then dO (aI r a s) (a+1) L else (aI r a s,aV r a)
def bP(r:RefD)(f z:Int)(g:Nat)(l:List aW):RefD×Int:=
 if max (z-1) 0<l.length then (r,13) else if l.all aS then dO r (f+1) (l.map (aD g)) else (r,15)
theorem JT(r:RefD)(a:Int)(s:List Int):(eZ r a s).opn.length≤r.opn.length+1∧(eZ r a s).steps=r.steps:=by
 unfold eZ;split
 ·exact⟨by simp,rfl⟩
 ·exact⟨by omega,rfl⟩
theorem uG(r:RefD)(a:Int)(s:List Int):(aI r a s).opn.length≤r.opn.length+1∧(aI r a s).steps≤r.steps+1:=by
 have h:=JT (bD r) a s;have e:(bD r).steps=r.steps+1:=rfl;have e2:(bD r).opn=r.opn:=rfl;unfold aI;split
 ·omega
 ·split
  ·exact⟨Nat.zero_le _,by show(eZ (bD r) a s).steps≤_;omega⟩
  ·split
   ·rw[e,e2];omega
   ·rw[e2] at h;omega
theorem yV(r:RefD)(a:Int)(L:List (List Int))(k:Nat)(hk:k<L.length):dO r a (L.drop k)=if aV r a=0 then dO (aI r a L[k]) (a+1) (L.drop (k+1)) else (aI r a L[k],aV r a):=by
 rw[List.drop_eq_getElem_cons hk];rfl
theorem Blk.setAll{w:World}{g:Nat}{t:TypeId}{old:Array Value}(new:List Value)(hB:Blk w g t old)(hl:old.size=new.length):Blk (w.setCells g 0 new) g t new.toArray:=by
 have h:=eL (w:=w) (g:=g) (t:=t) [] old.toList [] new (by simpa using hB) (by simpa using hl);have h:=h.1;simpa using h
theorem aF{w:World}{g:Nat}{t:TypeId}{old:Array Value}(hB:Blk w g t old){n:Nat}(hl:old.size=n):w.there g 0 n:=cZ hB (by omega)
structure RB(w wr:World)(m:RM)(r:RefD)(mk:RM)(rk:RefD):Prop where
 ba:Blk wr w.heap.size 57 (aA mk rk)
 bz:Blk wr (w.heap.size+1) 57 refZ
 k:RK wr mk rk
 bw:Below w.heap.size w wr
 sub:∀ b∈aL mk rk,b∈aL m r∨w.heap.size+2≤b
theorem RB.keep{w wr wx:World}{m:RM}{r:RefD}{mk:RM}{rk:RefD}(h:RB w wr m r mk rk)(hb:Below wr.heap.size wr wx):RB w wx m r mk rk:=⟨h.ba.keep hb,h.bz.keep hb,h.k.keep hb,aB h.bw hb,h.sub⟩
theorem RB.notA{w wr:World}{m:RM}{r:RefD}{mk:RM}{rk:RefD}(h:RB w wr m r mk rk)(h0:RK w m r):w.heap.size ∉ aL mk rk∧w.heap.size+1 ∉ aL mk rk:=
  ⟨fun hm => by rcases h.sub _ hm with h | h
                · have := h0.bl _ h; omega
                · omega, fun hm => by rcases h.sub _ hm with h | h
                                      · have := h0.bl _ h; omega
                                      · omega⟩
theorem GE(m:RM)(r:RefD)(f z:Int)(g:Nat)(l:List aW)(Al:Option Addr)(cl:Nat)(w:World)(h:RK w m r)(hl:Sn w 33 (.slice Al l.length cl) l.length (l.flatMap aC))(hok:∀ q∈l,EntOk q)
  (hf:0≤f∧f≤100000) (hz : -100000≤z∧z≤100000) (hll:l.length≤10000) (hst:r.steps+20000≤1000000000) (ho:r.opn.length+20000≤50000):
  Calls Tryz.prog 95 #[.agg (aA m r),.int .i64 f,.int .i64 z,.int .u32 g,.slice Al l.length cl] w fun e w'=>∃ m',e = .returned (.tuple #[.agg (aA m' (bP r f z g l).1),.int .i64 (bP r f z g l).2])∧RK w' m' (bP r f z g l).1∧Below w.heap.size w w'∧∀ b∈aL m' (bP r f z g l).1,b∈aL m r∨w.heap.size≤b:=by
 have HK:=jz h;have HL:=jz hl;have HOK:=jz hok;have f1:0≤f:=hf.1;have f2:f≤100000:=hf.2;have z1 : -100000≤z:=hz.1;have z2:z≤100000:=hz.2;have hlen:∀ m r,(Tryz.prog.info? 57).map (·.size)=some (aA m r).toList.length:=fun _ _=>bG
 obtain⟨w1,hw1⟩:=je ((w.alloc (.cells (aA m r) 57)).alloc (.cells refZ 57));have hA1:Blk w1 w.heap.size 57 (aA m r):=by rw[hw1];exact(Blk.new _ _ _).alloc _
 have hB1:Blk w1 (w.heap.size+1) 57 refZ:=by rw[hw1];exact Blk.newAt _ _ _ _ (by simp)
 have hb1:Below w.heap.size w w1:=by rw[hw1];exact aB (aN _ _) (aN _ _)
 have HRB:Hid (RB w w1 m r m r):=jz ⟨hA1,hB1,h.keep hb1,hb1,fun b hb=>.inl hb⟩;have hr1:=hA1.range;have HR1:=jz hr1;have h1:(aA m r).all (·.oneCell')=true:=aR h;obtain⟨M,hM⟩:∃ M:Int,M=max (z-1) 0:=⟨_,rfl⟩;have hM1:max (z-1) 0=M:=hM.symm;have hMb:0≤M∧M≤100000:=by omega
 clear h hl hok hf hz hA1 hB1 hb1 hr1;have hlc:(l.length:Int)≤10000:=by omega
 rcases jb (decide (M<(l.length:Int))) with t1|t1
 ·have HF:Hid (bP r f z g l=(r,13)):=jz (by unfold bP;rw[hM1,if_pos (of_decide_eq_true t1)]);clear hM;go_enter Tryz.func95,Tryz.ntmps95
  go_upto_region 1 with (refine al 57 refZ rfl rfl cJ ?_)
  rw[← hw1];clear hw1;go_wp2_with (first
   | (refine ld 57 _ rfl rfl rfl HR1.out Tryz.underlying57 rfl (hlen m r) ?_)
   | (refine bC (cells:=aA m r) 57 (.tmp 10) (.tmp 21) rfl rfl rfl rfl HRB.bz bG rfl h1 ?_;intro w4 hB4 hb4 ho4 hs4;have HB4:=jz hB4;have HE4:=jz hb4;clear hB4 hb4 ho4 hs4))
  have hbw:Below w.heap.size w w4:=HRB.bw.trans (HE4.mono (by omega));have hr4:=HB4.range;exact bodyPost_ret (aJ rfl _ rfl hr4 Tryz.underlying57 rfl (hlen m r)) rfl ⟨m,by rw[HF.out];rfl,by rw[HF.out];exact HK.keep hbw,hbw,by rw[HF.out];exact fun b hb=>.inl hb⟩
 ·have HF0:Hid (bP r f z g l=if l.all aS then dO r (f+1) (l.map (aD g)) else (r,15)):=jz (by unfold bP;rw[hM1,if_neg (of_decide_eq_false t1)]);clear hM;go_enter Tryz.func95,Tryz.ntmps95
  go_upto_region 1 with (refine al 57 refZ rfl rfl cJ ?_)
  rw[← hw1];clear hw1;go_wp2_with fail
  go_loopw [12] (fun i wr=>∃ k:Nat,k≤l.length∧i = .int .i64 k∧Hid (∀ q∈l.take k,aS q=true)∧Hid (RB w wr m r m r)) (fun i _=>l.length-(intOf i).toNat)
  case atStart=>exact⟨0,Nat.zero_le _,rfl,jz (fun q hq=>by simp at hq),HRB⟩
  case round=>
   obtain⟨k,hk,rfl,HR,HB⟩:=hrel;rcases Nat.lt_or_ge k l.length with hlt|hge
   ·obtain⟨b,off,hA,hr⟩:=gH aC EntOk 33 aH (HL.below HB.bw) HOK.out k hlt;have HRW:Hid (wr.rangeAt b (off+k*33) (aC l[k])):=jz hr;subst hA;have hqk:=HOK.out l[k] (List.getElem_mem hlt);have la:=aH l[k] hqk;have HQK:=jz hqk;have HSN:Hid (aS l[k]=true→∀ q∈l.take (k+1),aS q=true):=jz (fun h q hq=>by
     rw[List.take_succ_eq_append_getElem hlt] at hq
     rcases List.mem_append.1 hq with hq|hq
     ·exact HR.out q hq
     ·rw[List.mem_singleton.1 hq];exact h)
    have HBAD:Hid (aS l[k]=false→bP r f z g l=(r,15)):=jz (fun h=>by
     rw[HF0.out,if_neg]
     rw[List.all_eq_true]
     intro ha
     rw[ha _ (List.getElem_mem hlt)] at h
     cases h)
    obtain⟨q,hq⟩:=je (l[k]);rw[← hq] at HRW la HQK HSN HBAD;have hua:(Tryz.prog.info? 35).map (·.size)=some (aC q).length:=by rw[la];kernel_rfl
    have hi0:(0:Int)≤k:=by omega
    have hi1:(k:Int)<l.length:=by omega
    clear hqk la hr hq;go_wp2_with (refine ld 35 _ rfl rfl rfl HRW.out Tryz.underlying35 rfl hua ?_)
    refine(lI q wr HQK.out).mono ?_;rintro e w2 ⟨rfl,hb2⟩;have HB2:=jz (HB.keep hb2);clear hb2;cases hrq:aS q with
    | true=>
     have HSN':=jz (HSN.out hrq);go_wp2_with fail
     exact⟨⟨k+1,by omega,by go_num,HSN',HB2⟩,by simp[intOf];omega⟩
    | false=>
     have HF:=jz (HBAD.out hrq);have hr2:=HB2.ba.range;go_wp2_with (first
      | (refine ld 57 _ rfl rfl rfl hr2 Tryz.underlying57 rfl (hlen m r) ?_)
      | (refine bC (cells:=aA m r) 57 (.tmp 10) (.tmp 34) rfl rfl rfl rfl HB2.bz bG rfl h1 ?_;intro w4 hB4 hb4 ho4 hs4;have HB4:=jz hB4;have HE4:=jz hb4;clear hB4 hb4 ho4 hs4))
     have hbw:Below w.heap.size w w4:=HB2.bw.trans (HE4.mono (by omega));have hr4:=HB4.range;exact bodyPost_ret (aJ rfl _ rfl hr4 Tryz.underlying57 rfl (hlen m r)) rfl ⟨m,by rw[HF.out];rfl,by rw[HF.out];exact HK.keep hbw,hbw,by rw[HF.out];exact fun b hb=>.inl hb⟩
   ·obtain rfl:k=l.length:=by omega
    rw[List.take_length] at HR;have HF1:Hid (bP r f z g l=dO r (f+1) (l.map (aD g))):=jz (by rw[HF0.out,if_pos (by rw[List.all_eq_true];exact HR.out)]);go_wp2_with fail
    obtain⟨wo,rfl⟩:∃ wo:World,wo=wr:=⟨_,rfl⟩;go_loopw [13] (fun i wr=>∃ k:Nat,k≤l.length∧i = .int .i64 k∧Hid (∃ mk rk,RB w wr m r mk rk∧bP r f z g l=dO rk (f+1+k) ((l.map (aD g)).drop k)∧rk.opn.length≤r.opn.length+k∧rk.steps≤r.steps+k)) (fun i _=>l.length-(intOf i).toNat)
    case atStart=>exact⟨0,Nat.zero_le _,rfl,jz ⟨m,r,HB.out,by rw[HF1.out];simp,by omega,by omega⟩⟩
    case round=>
     obtain⟨k,hk,rfl,HX⟩:=hrel;obtain⟨mk,rk,hRB,hval,hol,hsl⟩:=HX.out;have HRK:=jz hRB;have HVAL:=jz hval;have h1k:(aA mk rk).all (·.oneCell')=true:=aR hRB.k;clear hRB hval HX;rcases Nat.lt_or_ge k l.length with hlt|hge
     ·obtain⟨b,off,hA,hr⟩:=gH aC EntOk 33 aH (HL.below HRK.bw) HOK.out k hlt;subst hA;have hblt:b<w.heap.size:=HL.blk_lt (by omega) (by omega) b rfl;have hqk:=HOK.out l[k] (List.getElem_mem hlt);have la:=aH l[k] hqk;have HQK:=jz hqk;have HRQ:=jz (HR.out _ (List.getElem_mem hlt));have HNX:Hid (bP r f z g l=if aV rk (f+1+k)=0 then dO (aI rk (f+1+k) (aD g l[k])) (f+1+k+1) ((l.map (aD g)).drop (k+1)) else (aI rk (f+1+k) (aD g l[k]),aV rk (f+1+k))):=jz (by
       rw[HVAL.out,yV _ _ _ k (by simpa using hlt)]
       simp)
      obtain⟨q,hq⟩:=je (l[k]);rw[← hq] at hr la HQK HRQ HNX;have HUQ:Hid ((Tryz.prog.info? 35).map (·.size)=some (aC q).length):=jz (by rw[la];kernel_rfl);have hi0:(0:Int)≤k:=by omega
      have hi1:(k:Int)<l.length:=by omega
      obtain⟨wS,hwS⟩:=je wr.drew;have hbS:Below wr.heap.size wr wS:=by rw[hwS];exact(Below.refl _ _).drew
      have HRS:=jz (HRK.keep hbS);have HRE:Hid (wS.rangeAt b (off+k*33) (aC q)):=jz (fun i u hi=>Below.cell' hbS (hr i u hi));have hbd:=uG rk (f+1+k) (aD g q);have HSE:Hid (Sec (aD g q)):=jz (dX g HQK.out);have hEl:=mM HQK.out;have hEb:Bys (q.1++beB 8 q.2.toNat):=fun x hx=>by
       rcases List.mem_append.1 hx with hx|hx
       ·exact HQK.dig.byte x hx
       ·exact gF _ _ x hx
      have HMK:=jz (fun(v:Value) (W:World) (hs:Sn W 1 v (q.1++beB 8 q.2.toNat).length (u8s (q.1++beB 8 q.2.toNat)))=>(show Calls Tryz.prog 126 #[.int .u32 g,v] W fun e w'=>e = .returned (.agg (u8s (aD g q)).toArray)∧Below W.heap.size W w' from rL g (q.1++beB 8 q.2.toNat) v W hs hEb hEl));have HPY:=jz (fun W=>pC q W HQK.out HRQ.out);have h40:Hid ((q.1++beB 8 q.2.toNat).length=40):=jz (by rw[List.length_append,HQK.dig.len,bB]);have HWR:=jz (fun(W:World) (hb:Below wS.heap.size wS W)=>uF mk rk (f+1+k) (aD g q) W (HRS.k.keep hb) HSE.out ⟨by omega,by omega⟩ (by omega) (by omega));have HSK:Hid (∀ W,Below wS.heap.size wS W→W.rangeAt b (off+k*33) (aC q)):=jz (fun W hb i u hi=>Below.cell' hb (HRE.out i u hi));obtain⟨A,hA⟩:=je (f+1+(k:Int));have HAA:=jz hA;have HAn:Hid (A+1=f+1+((k+1:Nat):Int)):=jz (by omega);have hA0:0≤A∧A≤200000:=by omega
      rw[← hA] at HNX HWR hbd;clear hr la hq hbS hA hEl hEb;go_upto_region 12 with fail
      refine aQ 18 (fun w'=>w'.rangeAt b (off+k*33) (aC q)) (by kernel_rfl) (by kernel_rfl) (by rw[← hwS];exact HRE.out) (fun hH=>?_);rw[← hwS] at hH ⊢;clear hwS;refine jM 1 (.tmp 1) (some 43) (.int .i64 f) hH ?_;simp only[jq];refine jT 2 (.binOp .add 3 (.tmp 43) (.const (.int .i64 1)) 3) (some 44) (.int .i64 (f+1)) (hy:=fun o ho wX hX=>by unfold execOp;simp only[ho];go_simp;exact IntWalk.i64_in _ (by omega)) hH ?_;simp only[jq];refine jM 3 (.tmp 13) (some 45) (.int .i64 (k:Int)) hH ?_;simp only[jq];refine jT 4 (.binOp .add 3 (.tmp 44) (.tmp 45) 3) (some 46) (.int .i64 A) (hy:=fun o ho wX hX=>by have hAA:=HAA.out;unfold execOp;simp only[ho];go_simp;exact IntWalk.i64_in _ (by omega)) hH ?_;simp only[jq];refine jM 5 (.tmp 3) (some 47) (.int .u32 g) hH ?_;simp only[jq];refine jM 6 (.tmp 4) (some 48) (.slice (some ⟨b,off,none⟩) l.length cl) hH ?_;simp only[jq];refine jM 7 (.tmp 13) (some 49) (.int .i64 (k:Int)) hH ?_;simp only[jq];refine jT 8 (.indexAddr 28 (.tmp 48) (.tmp 49)) (some 50) (.pointer (some ⟨b,off+k*33,none⟩)) hH ?_;simp only[jq];refine jL 9 35 (.tmp 50) (some 51) (cs:=aC q) (fun _ hX=>hX) Tryz.underlying35 rfl HUQ.out hH ?_;simp only[jq];refine jW [0,10] ?_;refine i0 0 57 (.tmp 5) (some 42) (cs:=(aA mk rk).toList) (by kernel_rfl) (by kernel_rfl) (by exact rfl) ((HRS.keep (Below.refl _ wS)).ba.range) Tryz.underlying57 rfl (hlen mk rk) (HSK.out _ (Below.refl _ wS)) ?_ (jC 10 (.call { callee:=.value (.func 127),args:=#[.tmp 51],argTypes:=#[35] }) (some 52) 127 #[.agg (aC q).toArray] ?_ jN)
      ·simp only[jq];refine jW [10] ?_;refine jC 10 (.call { callee:=.value (.func 127),args:=#[.tmp 51],argTypes:=#[35] }) (some 52) 127 #[.agg (aC q).toArray] ?_ jN;refine(HPY.out wS).mono ?_;rintro e w12 ⟨v12,rfl,ho12,hb12⟩;have hBk2:=aB (Below.refl _ wS) hb12;refine⟨_,rfl,HSK.out _ hBk2,fun _=>?_⟩;simp only[jq];refine jW [11] ?_;refine jC 11 (.call { callee:=.value (.func 126),args:=#[.tmp 47,.tmp 52],argTypes:=#[59,78] }) (some 53) 126 #[.int .u32 g,v12] ?_ jN;refine(HMK.out v12 w12 (by rw[h40.out];exact Sn.own ho12)).mono ?_;rintro e w13 ⟨rfl,hb13⟩;have hBk3:=aB hBk2 hb13;refine⟨_,rfl,HSK.out _ hBk3,fun _=>?_⟩;simp only[jq];refine jW [12] ?_;refine jC 12 (.call { callee:=.value (.func 128),args:=#[.tmp 42,.tmp 46,.tmp 53],argTypes:=#[57,3,144] }) (some 54) 128 #[.agg (aA mk rk),.int .i64 A,.agg (u8s (aD g q)).toArray] ?_ jN;refine(HWR.out w13 hBk3).mono ?_;rintro e w9 ⟨m9,rfl,hk9,hb9,hr9⟩;have hB9:=aB hBk3 hb9;refine⟨_,rfl,HSK.out _ hB9,fun hH=>?_⟩;simp only[jq];refine jT 13 (.move (.tmp 54)) (some 41) (.tuple #[.agg (aA m9 (aI rk A (aD g q))),.int .i64 (aV rk A)]) (by assumption) ?_;simp only[jq];refine jT 14 (.extract (.tmp 41) 0) (some 55) (.agg (aA m9 (aI rk A (aD g q)))) (by assumption) ?_;simp only[jq];refine jT 15 (.extract (.tmp 41) 1) (some 56) (.int .i64 (aV rk A)) (by assumption) ?_;simp only[jq];have h9:=HRS.keep hB9;have hS9:∀ W:World,(∀ k,k≠w.heap.size→W.heap[k]? = w9.heap[k]?)→W.rangeAt b (off+k*33) (aC q):=fun W hk i u hi=>(World.cell?_of_block (a:=⟨b,off+k*33+i,none⟩) (hk b (by omega))).trans (HSK.out _ hB9 i u hi)
       have hoth:∀ k,k≠w.heap.size→(w9.setCells w.heap.size 0 (aA m9 (aI rk A (aD g q))).toList).heap[k]? = w9.heap[k]?:=fun k hk=>bA hk _ _ _
       have hone9:∀ u∈(aA m9 (aI rk A (aD g q))).toList,u.oneCell'=true:=fun u hu=>by have:=aR hk9;rw[Array.all_eq_true_iff_forall_mem] at this;exact this u (by simpa using hu)
       refine jW [16] ?_;refine jR 16 57 (.tmp 5) (.tmp 55) none (cs:=(aA m9 (aI rk A (aD g q))).toList) (aF h9.ba rfl) (hlen _ _) hone9 (hS9 _ hoth) ?_ jN;simp only[jq];refine jW [17] ?_;refine jS 17 (.assign (.tmp 56)) (some 14) (.int .i64 (aV rk A)) (w9.setCells w.heap.size 0 (aA m9 (aI rk A (aD g q))).toList) (hS9 _ hoth) ?_ jN;simp only[jq];refine wpAnyH_done (by kernel_rfl) ?_ _;have hX:RB w (w9.setCells w.heap.size 0 (aA m9 (aI rk A (aD g q))).toList) m r m9 (aI rk A (aD g q)):=by
        have hsz:(w9.setCells w.heap.size 0 (aA m9 (aI rk A (aD g q))).toList).heap.size=w9.heap.size:=(aO (B:=0) (Nat.zero_le _) _ _ _).2;have hsub:∀ b∈aL m9 (aI rk A (aD g q)),b∈aL m r∨w.heap.size+2≤b:=fun b hm=>by
         rcases hr9 b hm with h|h
         ·exact HRS.sub b h
         ·have:=(HRS.keep hBk3).bz.lt;exact .inr (by omega)
        refine⟨Blk.setAll _ h9.ba rfl,(hoth _ (by omega)).trans h9.bz,hk9.offK hoth (by omega) (fun hm=>?_),h9.bw.trans (aO (Nat.le_refl _) _ _ _).1,hsub⟩;rcases hsub _ hm with h|h
        ·have:=HK.bl _ h;omega
        ·omega
       have HXX:=jz hX;obtain⟨wz,hwz⟩:=je (w9.setCells w.heap.size 0 (aA m9 (aI rk A (aD g q))).toList);rw[← hwz] at HXX ⊢;clear hX hwz hS9 hoth h9 hone9 hB9 hk9 hb9 hr9 hH;rcases jb (aV rk A == 0) with tz|tz
       ·have hz0:aV rk A=0:=by simpa using tz
        have HV2:Hid (bP r f z g l=dO (aI rk A (aD g q)) (f+1+((k+1:Nat):Int)) ((l.map (aD g)).drop (k+1))):=jz (by rw[HNX.out,if_pos hz0,HAn.out]);rw[hz0];go_wp2_with fail
        exact⟨⟨k+1,by omega,by go_num,jz ⟨m9,_,HXX.out,HV2.out,by omega,by omega⟩⟩,by simp[intOf];omega⟩
       ·have hz0:aV rk A≠0:=by simpa using tz
        have HV2:Hid (bP r f z g l=(aI rk A (aD g q),aV rk A)):=jz (by rw[HNX.out,if_neg hz0]);have hrz:=HXX.ba.range;have h19:=aR HXX.k;have tz2:(aV rk A != 0)=true:=by simpa using hz0
        go_wp2_with (first
         | (refine ld 57 _ rfl rfl rfl hrz Tryz.underlying57 rfl (hlen _ _) ?_)
         | (refine bC (cells:=aA m9 (aI rk A (aD g q))) 57 (.tmp 10) (.tmp 59) rfl rfl rfl rfl HXX.bz bG rfl h19 ?_;intro w7 hB7 hb7 ho7 hs7;have HB7:=jz hB7;have HE7:=jz hb7;have HO7:=jz ho7;have HS7:=jz hs7;clear hB7 hb7 ho7 hs7))
        have hbw:Below w.heap.size w w7:=HXX.bw.trans (HE7.mono (by omega));have hr7:=HB7.range;exact bodyPost_ret (aJ rfl _ rfl hr7 Tryz.underlying57 rfl (hlen _ _)) rfl ⟨m9,by rw[HV2.out];rfl,by rw[HV2.out];exact HXX.k.offK HO7.out (by rw[HS7.out];exact Nat.le_refl _) (HXX.notA HK.out).2,hbw,fun b hm=>by
         rw[HV2.out] at hm
         rcases HXX.sub b hm with h|h
         ·exact .inl h
         ·exact .inr (by omega)⟩
      ·refine(HPY.out wS).mono ?_;rintro e w15 ⟨v15,rfl,ho15,hb15⟩;have hBk5:=aB (Below.refl _ wS) hb15;refine⟨_,rfl,HSK.out _ hBk5,fun _=>?_⟩;simp only[jq];refine jW [0,11] ?_;refine i0 0 57 (.tmp 5) (some 42) (cs:=(aA mk rk).toList) (by kernel_rfl) (by kernel_rfl) (by exact rfl) ((HRS.keep hBk5).ba.range) Tryz.underlying57 rfl (hlen mk rk) (HSK.out _ hBk5) ?_ (jC 11 (.call { callee:=.value (.func 126),args:=#[.tmp 47,.tmp 52],argTypes:=#[59,78] }) (some 53) 126 #[.int .u32 g,v15] ?_ jN)
       ·simp only[jq];refine jW [11] ?_;refine jC 11 (.call { callee:=.value (.func 126),args:=#[.tmp 47,.tmp 52],argTypes:=#[59,78] }) (some 53) 126 #[.int .u32 g,v15] ?_ jN;refine(HMK.out v15 w15 (by rw[h40.out];exact Sn.own ho15)).mono ?_;rintro e w17 ⟨rfl,hb17⟩;have hBk7:=aB hBk5 hb17;refine⟨_,rfl,HSK.out _ hBk7,fun _=>?_⟩;simp only[jq];refine jW [12] ?_;refine jC 12 (.call { callee:=.value (.func 128),args:=#[.tmp 42,.tmp 46,.tmp 53],argTypes:=#[57,3,144] }) (some 54) 128 #[.agg (aA mk rk),.int .i64 A,.agg (u8s (aD g q)).toArray] ?_ jN;refine(HWR.out w17 hBk7).mono ?_;rintro e w9 ⟨m9,rfl,hk9,hb9,hr9⟩;have hB9:=aB hBk7 hb9;refine⟨_,rfl,HSK.out _ hB9,fun hH=>?_⟩;simp only[jq];refine jT 13 (.move (.tmp 54)) (some 41) (.tuple #[.agg (aA m9 (aI rk A (aD g q))),.int .i64 (aV rk A)]) (by assumption) ?_;simp only[jq];refine jT 14 (.extract (.tmp 41) 0) (some 55) (.agg (aA m9 (aI rk A (aD g q)))) (by assumption) ?_;simp only[jq];refine jT 15 (.extract (.tmp 41) 1) (some 56) (.int .i64 (aV rk A)) (by assumption) ?_;simp only[jq];have h9:=HRS.keep hB9;have hS9:∀ W:World,(∀ k,k≠w.heap.size→W.heap[k]? = w9.heap[k]?)→W.rangeAt b (off+k*33) (aC q):=fun W hk i u hi=>(World.cell?_of_block (a:=⟨b,off+k*33+i,none⟩) (hk b (by omega))).trans (HSK.out _ hB9 i u hi)
        have hoth:∀ k,k≠w.heap.size→(w9.setCells w.heap.size 0 (aA m9 (aI rk A (aD g q))).toList).heap[k]? = w9.heap[k]?:=fun k hk=>bA hk _ _ _
        have hone9:∀ u∈(aA m9 (aI rk A (aD g q))).toList,u.oneCell'=true:=fun u hu=>by have:=aR hk9;rw[Array.all_eq_true_iff_forall_mem] at this;exact this u (by simpa using hu)
        refine jW [16] ?_;refine jR 16 57 (.tmp 5) (.tmp 55) none (cs:=(aA m9 (aI rk A (aD g q))).toList) (aF h9.ba rfl) (hlen _ _) hone9 (hS9 _ hoth) ?_ jN;simp only[jq];refine jW [17] ?_;refine jS 17 (.assign (.tmp 56)) (some 14) (.int .i64 (aV rk A)) (w9.setCells w.heap.size 0 (aA m9 (aI rk A (aD g q))).toList) (hS9 _ hoth) ?_ jN;simp only[jq];refine wpAnyH_done (by kernel_rfl) ?_ _;have hX:RB w (w9.setCells w.heap.size 0 (aA m9 (aI rk A (aD g q))).toList) m r m9 (aI rk A (aD g q)):=by
         have hsz:(w9.setCells w.heap.size 0 (aA m9 (aI rk A (aD g q))).toList).heap.size=w9.heap.size:=(aO (B:=0) (Nat.zero_le _) _ _ _).2;have hsub:∀ b∈aL m9 (aI rk A (aD g q)),b∈aL m r∨w.heap.size+2≤b:=fun b hm=>by
          rcases hr9 b hm with h|h
          ·exact HRS.sub b h
          ·have:=(HRS.keep hBk7).bz.lt;exact .inr (by omega)
         refine⟨Blk.setAll _ h9.ba rfl,(hoth _ (by omega)).trans h9.bz,hk9.offK hoth (by omega) (fun hm=>?_),h9.bw.trans (aO (Nat.le_refl _) _ _ _).1,hsub⟩;rcases hsub _ hm with h|h
         ·have:=HK.bl _ h;omega
         ·omega
        have HXX:=jz hX;obtain⟨wz,hwz⟩:=je (w9.setCells w.heap.size 0 (aA m9 (aI rk A (aD g q))).toList);rw[← hwz] at HXX ⊢;clear hX hwz hS9 hoth h9 hone9 hB9 hk9 hb9 hr9 hH;rcases jb (aV rk A == 0) with tz|tz
        ·have hz0:aV rk A=0:=by simpa using tz
         have HV2:Hid (bP r f z g l=dO (aI rk A (aD g q)) (f+1+((k+1:Nat):Int)) ((l.map (aD g)).drop (k+1))):=jz (by rw[HNX.out,if_pos hz0,HAn.out]);rw[hz0];go_wp2_with fail
         exact⟨⟨k+1,by omega,by go_num,jz ⟨m9,_,HXX.out,HV2.out,by omega,by omega⟩⟩,by simp[intOf];omega⟩
        ·have hz0:aV rk A≠0:=by simpa using tz
         have HV2:Hid (bP r f z g l=(aI rk A (aD g q),aV rk A)):=jz (by rw[HNX.out,if_neg hz0]);have hrz:=HXX.ba.range;have h19:=aR HXX.k;have tz2:(aV rk A != 0)=true:=by simpa using hz0
         go_wp2_with (first
          | (refine ld 57 _ rfl rfl rfl hrz Tryz.underlying57 rfl (hlen _ _) ?_)
          | (refine bC (cells:=aA m9 (aI rk A (aD g q))) 57 (.tmp 10) (.tmp 59) rfl rfl rfl rfl HXX.bz bG rfl h19 ?_;intro w7 hB7 hb7 ho7 hs7;have HB7:=jz hB7;have HE7:=jz hb7;have HO7:=jz ho7;have HS7:=jz hs7;clear hB7 hb7 ho7 hs7))
         have hbw:Below w.heap.size w w7:=HXX.bw.trans (HE7.mono (by omega));have hr7:=HB7.range;exact bodyPost_ret (aJ rfl _ rfl hr7 Tryz.underlying57 rfl (hlen _ _)) rfl ⟨m9,by rw[HV2.out];rfl,by rw[HV2.out];exact HXX.k.offK HO7.out (by rw[HS7.out];exact Nat.le_refl _) (HXX.notA HK.out).2,hbw,fun b hm=>by
          rw[HV2.out] at hm
          rcases HXX.sub b hm with h|h
          ·exact .inl h
          ·exact .inr (by omega)⟩
       ·refine(HMK.out v15 w15 (by rw[h40.out];exact Sn.own ho15)).mono ?_;rintro e w19 ⟨rfl,hb19⟩;have hBk9:=aB hBk5 hb19;refine⟨_,rfl,HSK.out _ hBk9,fun _=>?_⟩;simp only[jq];refine jW [0] ?_;refine i0 0 57 (.tmp 5) (some 42) (cs:=(aA mk rk).toList) (by kernel_rfl) (by kernel_rfl) (by exact rfl) ((HRS.keep hBk9).ba.range) Tryz.underlying57 rfl (hlen mk rk) (HSK.out _ hBk9) ?_ jN;simp only[jq];refine jW [12] ?_;refine jC 12 (.call { callee:=.value (.func 128),args:=#[.tmp 42,.tmp 46,.tmp 53],argTypes:=#[57,3,144] }) (some 54) 128 #[.agg (aA mk rk),.int .i64 A,.agg (u8s (aD g q)).toArray] ?_ jN;refine(HWR.out w19 hBk9).mono ?_;rintro e w9 ⟨m9,rfl,hk9,hb9,hr9⟩;have hB9:=aB hBk9 hb9;refine⟨_,rfl,HSK.out _ hB9,fun hH=>?_⟩;simp only[jq];refine jT 13 (.move (.tmp 54)) (some 41) (.tuple #[.agg (aA m9 (aI rk A (aD g q))),.int .i64 (aV rk A)]) (by assumption) ?_;simp only[jq];refine jT 14 (.extract (.tmp 41) 0) (some 55) (.agg (aA m9 (aI rk A (aD g q)))) (by assumption) ?_;simp only[jq];refine jT 15 (.extract (.tmp 41) 1) (some 56) (.int .i64 (aV rk A)) (by assumption) ?_;simp only[jq];have h9:=HRS.keep hB9;have hS9:∀ W:World,(∀ k,k≠w.heap.size→W.heap[k]? = w9.heap[k]?)→W.rangeAt b (off+k*33) (aC q):=fun W hk i u hi=>(World.cell?_of_block (a:=⟨b,off+k*33+i,none⟩) (hk b (by omega))).trans (HSK.out _ hB9 i u hi)
        have hoth:∀ k,k≠w.heap.size→(w9.setCells w.heap.size 0 (aA m9 (aI rk A (aD g q))).toList).heap[k]? = w9.heap[k]?:=fun k hk=>bA hk _ _ _
        have hone9:∀ u∈(aA m9 (aI rk A (aD g q))).toList,u.oneCell'=true:=fun u hu=>by have:=aR hk9;rw[Array.all_eq_true_iff_forall_mem] at this;exact this u (by simpa using hu)
        refine jW [16] ?_;refine jR 16 57 (.tmp 5) (.tmp 55) none (cs:=(aA m9 (aI rk A (aD g q))).toList) (aF h9.ba rfl) (hlen _ _) hone9 (hS9 _ hoth) ?_ jN;simp only[jq];refine jW [17] ?_;refine jS 17 (.assign (.tmp 56)) (some 14) (.int .i64 (aV rk A)) (w9.setCells w.heap.size 0 (aA m9 (aI rk A (aD g q))).toList) (hS9 _ hoth) ?_ jN;simp only[jq];refine wpAnyH_done (by kernel_rfl) ?_ _;have hX:RB w (w9.setCells w.heap.size 0 (aA m9 (aI rk A (aD g q))).toList) m r m9 (aI rk A (aD g q)):=by
         have hsz:(w9.setCells w.heap.size 0 (aA m9 (aI rk A (aD g q))).toList).heap.size=w9.heap.size:=(aO (B:=0) (Nat.zero_le _) _ _ _).2;have hsub:∀ b∈aL m9 (aI rk A (aD g q)),b∈aL m r∨w.heap.size+2≤b:=fun b hm=>by
          rcases hr9 b hm with h|h
          ·exact HRS.sub b h
          ·have:=(HRS.keep hBk9).bz.lt;exact .inr (by omega)
         refine⟨Blk.setAll _ h9.ba rfl,(hoth _ (by omega)).trans h9.bz,hk9.offK hoth (by omega) (fun hm=>?_),h9.bw.trans (aO (Nat.le_refl _) _ _ _).1,hsub⟩;rcases hsub _ hm with h|h
         ·have:=HK.bl _ h;omega
         ·omega
        have HXX:=jz hX;obtain⟨wz,hwz⟩:=je (w9.setCells w.heap.size 0 (aA m9 (aI rk A (aD g q))).toList);rw[← hwz] at HXX ⊢;clear hX hwz hS9 hoth h9 hone9 hB9 hk9 hb9 hr9 hH;rcases jb (aV rk A == 0) with tz|tz
        ·have hz0:aV rk A=0:=by simpa using tz
         have HV2:Hid (bP r f z g l=dO (aI rk A (aD g q)) (f+1+((k+1:Nat):Int)) ((l.map (aD g)).drop (k+1))):=jz (by rw[HNX.out,if_pos hz0,HAn.out]);rw[hz0];go_wp2_with fail
         exact⟨⟨k+1,by omega,by go_num,jz ⟨m9,_,HXX.out,HV2.out,by omega,by omega⟩⟩,by simp[intOf];omega⟩
        ·have hz0:aV rk A≠0:=by simpa using tz
         have HV2:Hid (bP r f z g l=(aI rk A (aD g q),aV rk A)):=jz (by rw[HNX.out,if_neg hz0]);have hrz:=HXX.ba.range;have h19:=aR HXX.k;have tz2:(aV rk A != 0)=true:=by simpa using hz0
         go_wp2_with (first
          | (refine ld 57 _ rfl rfl rfl hrz Tryz.underlying57 rfl (hlen _ _) ?_)
          | (refine bC (cells:=aA m9 (aI rk A (aD g q))) 57 (.tmp 10) (.tmp 59) rfl rfl rfl rfl HXX.bz bG rfl h19 ?_;intro w7 hB7 hb7 ho7 hs7;have HB7:=jz hB7;have HE7:=jz hb7;have HO7:=jz ho7;have HS7:=jz hs7;clear hB7 hb7 ho7 hs7))
         have hbw:Below w.heap.size w w7:=HXX.bw.trans (HE7.mono (by omega));have hr7:=HB7.range;exact bodyPost_ret (aJ rfl _ rfl hr7 Tryz.underlying57 rfl (hlen _ _)) rfl ⟨m9,by rw[HV2.out];rfl,by rw[HV2.out];exact HXX.k.offK HO7.out (by rw[HS7.out];exact Nat.le_refl _) (HXX.notA HK.out).2,hbw,fun b hm=>by
          rw[HV2.out] at hm
          rcases HXX.sub b hm with h|h
          ·exact .inl h
          ·exact .inr (by omega)⟩
     ·obtain rfl:k=l.length:=by omega
      have HFIN:Hid (bP r f z g l=(bL rk,bX rk)):=jz (by rw[HVAL.out,List.drop_of_length_le (by simp)];rfl);have hr2:=HRK.ba.range;have HP:=jz (rN mk rk wr HRK.k (by omega));go_wp2_with (first
       | (refine ld 57 _ rfl rfl rfl hr2 Tryz.underlying57 rfl (hlen _ _) ?_)
       | (go_at_call 129;refine HP.mono ?_;rintro e w6 ⟨m6,rfl,hk6,hb6,hr6⟩)
       | (refine bC (cells:=aA m6 (bL rk)) 57 (.tmp 10) (.tmp 63) rfl rfl rfl rfl (HRK.bz.keep hb6) bG rfl (aR hk6) ?_;intro w7 hB7 hb7 ho7 hs7;have HB7:=jz hB7;have HE7:=jz hb7;have HO7:=jz ho7;have HS7:=jz hs7;clear hB7 hb7 ho7 hs7))
      have hbw:Below w.heap.size w w7:=(aB HRK.bw hb6).trans (HE7.mono (by omega));have hr7:=HB7.range;have hsub:∀ b∈aL m6 (bL rk),b∈aL m r∨w.heap.size+2≤b:=fun b hm=>by
       rcases hr6 b hm with h|h
       ·exact HRK.sub b h
       ·have:=HRK.bz.lt;exact .inr (by omega)
      refine bodyPost_ret (aJ rfl _ rfl hr7 Tryz.underlying57 rfl (hlen _ _)) rfl ⟨m6,by rw[HFIN.out];rfl,by
       rw[HFIN.out]
       exact hk6.offK HO7.out (by rw[HS7.out];exact Nat.le_refl _) (fun hm=>by
        rcases hsub _ hm with h|h
        ·have:=HK.bl _ h;omega
        ·omega),hbw,fun b hm=>by
       rw[HFIN.out] at hm
       rcases hsub b hm with h|h
       ·exact .inl h
       ·exact .inr (by omega)⟩
end Go.Proofs.YtombncedfleljaaGreat
