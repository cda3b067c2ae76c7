import Derived.Test.YtombncedfleljaaGreatMC20
set_option linter.unusedSimpArgs false
set_option maxRecDepth 100000
set_option maxHeartbeats 40000000
namespace Go.Proofs.YtombncedfleljaaGreat
section
open Go.RowKit
attribute [local irreducible] wpQuiet wpAnyH
def cX(r:RefD)(a:Int)(s:List Int):RefD:=if aV r a=0 then bL (aI r a s) else aI r a s
def eU(r:RefD)(a:Int)(s:List Int):Int:=if aV r a=0 then bX (aI r a s) else aV r a
def fS(r:RefD)(f z p:Int)(g:Nat)(q:aW):RefD:=if p<1 then r else if z≤p then r else if aS q then cX r (f+p) (aD g q) else r
def e9(r:RefD)(f z p:Int)(g:Nat)(q:aW):Int:=if p<1 then 13 else if z≤p then 13 else if aS q then eU r (f+p) (aD g q) else 15
theorem rP{w wr w7:World}{m m6:RM}{r r6:RefD}{B g:Nat}(h0:RK w m r)(hk:RK wr m6 r6)(hsub:∀ b∈aL m6 r6,b∈aL m r∨B≤b)(hg:w.heap.size≤g∧g<B)(ho:∀ k,k≠g→w7.heap[k]? = wr.heap[k]?)(hs:w7.heap.size=wr.heap.size):RK w7 m6 r6:=
 hk.offK ho (by omega) (fun hm=>by
  rcases hsub _ hm with h|h
  ·have:=h0.bl _ h;omega
  ·omega)
theorem pF(m:RM)(r:RefD)(a:Int)(s:List Int)(w:World)(h:RK w m r)(hs:Sec s)(ha:aK a)(hst:r.steps+2≤1000000000)(ho:r.opn.length+1≤50000):
  Calls Tryz.prog 125 #[.agg (aA m r),.int .i64 a,.agg (u8s s).toArray] w fun e w'=>∃ m',e = .returned (.tuple #[.agg (aA m' (cX r a s)),.int .i64 (eU r a s)])∧RK w' m' (cX r a s)∧Below w.heap.size w w'∧∀ b∈aL m' (cX r a s),b∈aL m r∨w.heap.size≤b:=by
 have HK:=jz h;have hlen:∀ m r,(Tryz.prog.info? 57).map (·.size)=some (aA m r).toList.length:=fun _ _=>bG
 obtain⟨w1,hw1⟩:=je (((w.alloc (.cells (aA m r) 57)).alloc (.cells (u8s s).toArray 144)).alloc (.cells refZ 57));have HA1:Hid (Blk w1 w.heap.size 57 (aA m r)):=jz (by rw[hw1];exact((Blk.new _ _ _).alloc _).alloc _);have HD1:Hid (Blk w1 (w.heap.size+1) 144 (u8s s).toArray):=jz (by rw[hw1];exact(Blk.newAt _ _ _ _ (by simp)).alloc _);have HB1:Hid (Blk w1 (w.heap.size+2) 57 refZ):=jz (by rw[hw1];exact Blk.newAt _ _ _ _ (by simp));have HW1:Hid (Below w.heap.size w w1):=jz (by rw[hw1];exact aB (aB (aN _ _) (aN _ _)) (aN _ _));have hr1:=HA1.range;have hr2:=HD1.range;rw[jt] at hr2;have hus:(Tryz.prog.info? 144).map (·.size)=some (u8s s).length:=by rw[aG hs];kernel_rfl
 have HP:=jz (uF m r a s w1 (h.keep HW1.out) hs ha (by omega) ho);have hbd:=uG r a s;go_enter Tryz.func125,Tryz.ntmps125
 go_upto_region 1 with (refine al 57 refZ rfl rfl cJ ?_)
 rw[← hw1];clear hw1 h hs;go_upto_region 2 with (first
  | (refine ld 57 _ rfl rfl rfl hr1 Tryz.underlying57 rfl (hlen _ _) ?_)
  | (refine ld 144 _ rfl rfl rfl hr2 Tryz.underlying144 rfl hus ?_)
  | (go_at_call 128;refine HP.mono ?_;rintro e w2 ⟨m2,rfl,hk2,hb2,hs2⟩)
  | (refine bC (cells:=aA m2 (aI r a s)) 57 (.tmp 3) (.tmp 14) rfl rfl rfl rfl (HA1.keep hb2) bG rfl (aR hk2) ?_;intro w3 hB3 hb3 ho3 hs3))
 have hlt:w.heap.size+3≤w2.heap.size:=by have:=(HB1.keep hb2).lt;omega
 have hsz1:w.heap.size+3≤w1.heap.size:=by have:=HB1.lt;omega
 have HA3:Hid (Blk w3 w.heap.size 57 (aA m2 (aI r a s))):=jz hB3;have HB3:Hid (Blk w3 (w.heap.size+2) 57 refZ):=jz ((ho3 _ (by omega)).trans (HB1.keep hb2));have HSUB:Hid (∀ b∈aL m2 (aI r a s),b∈aL m r∨w.heap.size+3≤b):=jz (fun b hm=>by
  rcases hs2 b hm with h|h
  ·exact .inl h
  ·exact .inr (by omega))
 have HK3:Hid (RK w3 m2 (aI r a s)):=jz (rP HK.out hk2 HSUB.out ⟨Nat.le_refl _,by omega⟩ ho3 hs3);have HW3:Hid (Below w.heap.size w w3):=jz ((aB HW1.out hb2).trans hb3);have h1:=aR HK3.out;have hr3:=HA3.range;clear hB3 hb3 ho3 hs3 hk2 hb2 hs2 HA1 HD1 HB1 HP hr1 hr2;rcases jb (aV r a != 0) with tz|tz
 ·have hz:aV r a≠0:=by simpa using tz
  have HV:Hid (cX r a s=aI r a s∧eU r a s=aV r a):=jz (by unfold cX eU;rw[if_neg hz,if_neg hz];exact⟨rfl,rfl⟩);go_wp2_with (first
   | (refine ld 57 _ rfl rfl rfl hr3 Tryz.underlying57 rfl (hlen _ _) ?_)
   | (refine bC (cells:=aA m2 (aI r a s)) 57 (.tmp 6) (.tmp 18) rfl rfl rfl rfl HB3.out bG rfl h1 ?_;intro w7 hB7 hb7 ho7 hs7;have HB7:=jz hB7;have HE7:=jz hb7;have HO7:=jz ho7;have HS7:=jz hs7;clear hB7 hb7 ho7 hs7))
  have hbw:Below w.heap.size w w7:=HW3.trans (HE7.mono (by omega));have hr7:=HB7.range;exact bodyPost_ret (aJ rfl _ rfl hr7 Tryz.underlying57 rfl (hlen _ _)) rfl ⟨m2,by rw[HV.out.1,HV.out.2];rfl,by rw[HV.out.1];exact rP HK.out HK3.out HSUB.out ⟨by omega,by omega⟩ HO7.out HS7.out,hbw,fun b hm=>by
   rw[HV.out.1] at hm
   rcases HSUB.out b hm with h|h
   ·exact .inl h
   ·exact .inr (by omega)⟩
 ·have hz:aV r a=0:=by simpa using tz
  have HV:Hid (cX r a s=bL (aI r a s)∧eU r a s=bX (aI r a s)):=jz (by unfold cX eU;rw[if_pos hz,if_pos hz];exact⟨rfl,rfl⟩);have HP:=jz (rN m2 (aI r a s) w3 HK3.out (by omega));go_wp2_with (first
   | (refine ld 57 _ rfl rfl rfl hr3 Tryz.underlying57 rfl (hlen _ _) ?_)
   | (go_at_call 129;refine HP.mono ?_;rintro e w6 ⟨m6,rfl,hk6,hb6,hr6⟩)
   | (refine bC (cells:=aA m6 (bL (aI r a s))) 57 (.tmp 6) (.tmp 22) rfl rfl rfl rfl (HB3.keep hb6) bG rfl (aR hk6) ?_;intro w7 hB7 hb7 ho7 hs7;have HB7:=jz hB7;have HE7:=jz hb7;have HO7:=jz ho7;have HS7:=jz hs7;clear hB7 hb7 ho7 hs7))
  have hbw:Below w.heap.size w w7:=(aB HW3.out hb6).trans (HE7.mono (by omega));have hr7:=HB7.range;have hsub:∀ b∈aL m6 (bL (aI r a s)),b∈aL m r∨w.heap.size+3≤b:=fun b hm=>by
   rcases hr6 b hm with h|h
   ·exact HSUB.out b h
   ·have:=HB3.lt;exact .inr (by omega)
  exact bodyPost_ret (aJ rfl _ rfl hr7 Tryz.underlying57 rfl (hlen _ _)) rfl ⟨m6,by rw[HV.out.1,HV.out.2];rfl,by rw[HV.out.1];exact rP HK.out hk6 hsub ⟨by omega,by omega⟩ HO7.out HS7.out,hbw,fun b hm=>by
   rw[HV.out.1] at hm
   rcases hsub b hm with h|h
   ·exact .inl h
   ·exact .inr (by omega)⟩
theorem rQ(m:RM)(r:RefD)(f:Int)(g:Nat)(w:World)(h:RK w m r)(hf:aK f)(hst:r.steps+2≤1000000000)(ho:r.opn.length+1≤50000):
  Calls Tryz.prog 96 #[.agg (aA m r),.int .i64 f,.int .u32 g] w fun e w'=>∃ m',e = .returned (.tuple #[.agg (aA m' (cX r f (rec g toll))),.int .i64 (eU r f (rec g toll))])∧RK w' m' (cX r f (rec g toll))∧Below w.heap.size w w'∧∀ b∈aL m' (cX r f (rec g toll)),b∈aL m r∨w.heap.size≤b:=by
 have HK:=jz h;have hlen:∀ m r,(Tryz.prog.info? 57).map (·.size)=some (aA m r).toList.length:=fun _ _=>bG
 obtain⟨w1,hw1⟩:=je ((w.alloc (.cells (aA m r) 57)).alloc (.cells refZ 57));have HA1:Hid (Blk w1 w.heap.size 57 (aA m r)):=jz (by rw[hw1];exact(Blk.new _ _ _).alloc _);have HB1:Hid (Blk w1 (w.heap.size+1) 57 refZ):=jz (by rw[hw1];exact Blk.newAt _ _ _ _ (by simp));have HW1:Hid (Below w.heap.size w w1):=jz (by rw[hw1];exact aB (aN _ _) (aN _ _));obtain⟨wS,hwS⟩:=je w1.drew;have hbS:Below w1.heap.size w1 wS:=by rw[hwS];exact(Below.refl _ _).drew
 have HAS:=jz (HA1.keep hbS);have HBS:=jz (HB1.keep hbS);have HWS:=jz (aB HW1.out hbS);have hsS:w.heap.size+2≤wS.heap.size:=by have:=HBS.lt;omega
 have HST:Hid (∀ W:World,Below wS.heap.size wS W→W.rangeAt w.heap.size 0 (aA m r).toList):=jz (fun W hb=>(HAS.keep hb).range);have HSR:Hid (Sec (rec g toll)):=jz ⟨d9 g toll (by decide),qA g toll jD⟩;have HMK:=jz (fun(v:Value) (W:World) (hs:Sn W 1 v toll.length (u8s toll))=>rL g toll v W hs jD (by decide));have HWR:=jz (fun(W:World) (hb:Below wS.heap.size wS W)=>pF m r f (rec g toll) W (HK.keep (aB HWS.out hb)) HSR.out hf hst ho);clear h hbS;go_enter Tryz.func96,Tryz.ntmps96
 go_upto_region 1 with (refine al 57 refZ rfl rfl cJ ?_)
 rw[← hw1];clear hw1;refine aQ 11 (fun w'=>w'.rangeAt w.heap.size 0 (aA m r).toList) (by kernel_rfl) (by kernel_rfl) (by rw[← hwS];exact HST.out _ (Below.refl _ _)) (fun hH=>?_);rw[← hwS] at hH ⊢;clear hwS;refine jL 0 57 (.tmp 3) (some 8) (cs:=(aA m r).toList) (fun _ hX=>hX) Tryz.underlying57 rfl (hlen m r) hH ?_;simp only[jq];refine jM 1 (.tmp 1) (some 9) (.int .i64 f) hH ?_;simp only[jq];refine jM 2 (.tmp 2) (some 10) (.int .u32 g) hH ?_;simp only[jq];refine jW [3] ?_;refine jS 3 (.buildSlice 78 4 #[(0,.const (.int .u8 84)),(1,.const (.int .u8 79)),(2,.const (.int .u8 76)),(3,.const (.int .u8 76))]) (some 11) (.slice (some ⟨wS.heap.size,0,none⟩) 4 4) (wS.alloc (.cells #[.int .u8 84,.int .u8 79,.int .u8 76,.int .u8 76] 5)) (HST.out _ (aN _ _)) ?_ jN;simp only[jq];refine jW [4] ?_;refine jS 4 (.convert 78 78 (.tmp 11)) (some 12) (.slice (some ⟨wS.heap.size,0,none⟩) 4 4) (wS.alloc (.cells #[.int .u8 84,.int .u8 79,.int .u8 76,.int .u8 76] 5 (4,5))) (hrun:=fun o ho=>by have hcv:=Lib.run_convert_bytes_const (P:=Tryz.prog) wS 78 5 #[.int .u8 84,.int .u8 79,.int .u8 76,.int .u8 76] 4 4 Tryz.underlying78 Tryz.underlying5;simp only[js,List.length_cons,List.length_nil] at hcv;unfold execOp;simp only[ho];go_simp) (HST.out _ (aN _ _)) ?_ jN;simp only[jq];obtain⟨v4,hv4⟩:=je (Value.slice (some ⟨wS.heap.size,0,none⟩) 4 4);obtain⟨w4,hw4⟩:=je (wS.alloc (.cells #[.int .u8 84,.int .u8 79,.int .u8 76,.int .u8 76] 5 (4,5)));have hb4:Below wS.heap.size wS w4:=by rw[hw4];exact aN _ _
 have hsn:Sn w4 1 v4 toll.length (u8s toll):=by rw[hw4,hv4];exact B8 wS
 have hv4s:∃ A n c,v4=Value.slice A n c:=⟨_,_,_,hv4⟩;rw[← hw4,← hv4];clear hw4 hv4;obtain⟨A4,n4,c4,rfl⟩:=hv4s;refine jW [5] ?_;refine jC 5 (.call { callee:=.value (.func 126),args:=#[.tmp 10,.tmp 12],argTypes:=#[59,78] }) (some 13) 126 #[.int .u32 g,.slice A4 n4 c4] ?_ jN;refine(HMK.out _ w4 hsn).mono ?_;rintro e w5 ⟨rfl,hb5⟩;have hB5:=aB hb4 hb5;refine⟨_,rfl,HST.out _ hB5,fun _=>?_⟩;simp only[jq];refine jW [6] ?_;refine jC 6 (.call { callee:=.value (.func 125),args:=#[.tmp 8,.tmp 9,.tmp 13],argTypes:=#[57,3,144] }) (some 14) 125 #[.agg (aA m r),.int .i64 f,.agg (u8s (rec g toll)).toArray] ?_ jN;refine(HWR.out w5 hB5).mono ?_;rintro e w9 ⟨m9,rfl,hk9,hb9,hr9⟩;have hlt5:=hB5.size;have hB9:=aB hB5 hb9;refine⟨_,rfl,HST.out _ hB9,fun hH=>?_⟩;simp only[jq];refine jT 7 (.extract (.tmp 14) 0) (some 15) (.agg (aA m9 (cX r f (rec g toll)))) (by assumption) ?_;simp only[jq];refine jT 8 (.extract (.tmp 14) 1) (some 16) (.int .i64 (eU r f (rec g toll))) (by assumption) ?_;simp only[jq];have hoth:∀ k,k≠w.heap.size+1→(w9.setCells (w.heap.size+1) 0 (aA m9 (cX r f (rec g toll))).toList).heap[k]? = w9.heap[k]?:=fun k hk=>bA hk _ _ _
 have hsz:(w9.setCells (w.heap.size+1) 0 (aA m9 (cX r f (rec g toll))).toList).heap.size=w9.heap.size:=(aO (B:=0) (Nat.zero_le _) _ _ _).2;have hS9:(w9.setCells (w.heap.size+1) 0 (aA m9 (cX r f (rec g toll))).toList).rangeAt w.heap.size 0 (aA m r).toList:=Blk.range (t:=57) (cs:=aA m r) ((hoth w.heap.size (by omega)).trans (HAS.keep hB9));have honel:∀ u∈(aA m9 (cX r f (rec g toll))).toList,u.oneCell'=true:=fun u hu=>by have:=aR hk9;rw[Array.all_eq_true_iff_forall_mem] at this;exact this u (by simpa using hu)
 refine jW [9] ?_;refine jR 9 57 (.tmp 6) (.tmp 15) none (cs:=(aA m9 (cX r f (rec g toll))).toList) (aF (HBS.keep hB9) rfl) (hlen _ _) honel hS9 ?_ jN;simp only[jq];refine jW [10] ?_;refine jS 10 (.assign (.tmp 16)) (some 7) (.int .i64 (eU r f (rec g toll))) (w9.setCells (w.heap.size+1) 0 (aA m9 (cX r f (rec g toll))).toList) hS9 ?_ jN;simp only[jq];refine wpAnyH_done (by kernel_rfl) ?_ _;have HBZ:Hid (Blk (w9.setCells (w.heap.size+1) 0 (aA m9 (cX r f (rec g toll))).toList) (w.heap.size+1) 57 (aA m9 (cX r f (rec g toll)))):=jz (Blk.setAll _ (HBS.keep hB9) rfl);have HBW:Hid (Below w.heap.size w (w9.setCells (w.heap.size+1) 0 (aA m9 (cX r f (rec g toll))).toList)):=jz ((aB HWS.out hB9).trans (aO (by omega) _ _ _).1);have HSUB:Hid (∀ b∈aL m9 (cX r f (rec g toll)),b∈aL m r∨w.heap.size+2≤b):=jz (fun b hm=>by
  rcases hr9 b hm with h|h
  ·exact .inl h
  ·exact .inr (by omega))
 have HKZ:Hid (RK (w9.setCells (w.heap.size+1) 0 (aA m9 (cX r f (rec g toll))).toList) m9 (cX r f (rec g toll))):=jz (rP HK.out hk9 HSUB.out ⟨by omega,by omega⟩ hoth hsz);obtain⟨wz,hwz⟩:=je ((w9.setCells (w.heap.size+1) 0 (aA m9 (cX r f (rec g toll))).toList));rw[← hwz] at HBZ HBW HKZ ⊢;clear hwz hS9 hoth hsz honel hk9 hB9 hb9 hr9 hH;go_wp2_with fail
 have hr7:=HBZ.range;exact bodyPost_ret (aJ rfl _ rfl hr7 Tryz.underlying57 rfl (hlen _ _)) rfl ⟨m9,rfl,HKZ.out,HBW.out,fun b hm=>by
  skip
  rcases HSUB.out b hm with h|h
  ·exact .inl h
  ·exact .inr (by omega)⟩
theorem EN(m:RM)(r:RefD)(f z p:Int)(g:Nat)(q:aW)(w:World)(h:RK w m r)(hq:EntOk q)(hf:0≤f∧f≤100000)(hz:aK z∧z≤100000)(hp:aK p)(hst:r.steps+2≤1000000000)(ho:r.opn.length+1≤50000):
  Calls Tryz.prog 93 #[.agg (aA m r),.int .i64 f,.int .i64 z,.int .i64 p,.int .u32 g,.agg (aC q).toArray] w fun e w'=>∃ m',e = .returned (.tuple #[.agg (aA m' (fS r f z p g q)),.int .i64 (e9 r f z p g q)])∧RK w' m' (fS r f z p g q)∧Below w.heap.size w w'∧∀ b∈aL m' (fS r f z p g q),b∈aL m r∨w.heap.size≤b:=by
 have HK:=jz h;have hlen:∀ m r,(Tryz.prog.info? 57).map (·.size)=some (aA m r).toList.length:=fun _ _=>bG
 have la:=aH q hq;have hue:(Tryz.prog.info? 35).map (·.size)=some (aC q).length:=by rw[la];kernel_rfl
 have p1 : -9223372036854775808≤p:=hp.1;have p2:p≤9223372036854775807:=hp.2;have z1 : -9223372036854775808≤z:=hz.1.1;have z2:z≤100000:=hz.2;have f1:0≤f:=hf.1;have f2:f≤100000:=hf.2;obtain⟨w1,hw1⟩:=je (((w.alloc (.cells (aA m r) 57)).alloc (.cells (aC q).toArray 35)).alloc (.cells refZ 57));have HA1:Hid (Blk w1 w.heap.size 57 (aA m r)):=jz (by rw[hw1];exact((Blk.new _ _ _).alloc _).alloc _);have HE1:Hid (Blk w1 (w.heap.size+1) 35 (aC q).toArray):=jz (by rw[hw1];exact(Blk.newAt _ _ _ _ (by simp)).alloc _);have HB1:Hid (Blk w1 (w.heap.size+2) 57 refZ):=jz (by rw[hw1];exact Blk.newAt _ _ _ _ (by simp));have HW1:Hid (Below w.heap.size w w1):=jz (by rw[hw1];exact aB (aB (aN _ _) (aN _ _)) (aN _ _));have hr1:=HA1.range;have HR1:=jz hr1;have hre:=HE1.range;rw[jt] at hre;have h1:=aR h;have HQ:=jz hq;clear h hq la hf hz hp hr1;rcases jb (decide (p<1) || decide (z≤p)) with t0|t0
 ·have HV:Hid (fS r f z p g q=r∧e9 r f z p g q=13):=jz (by
   unfold fS e9
   by_cases h1:p<1
   ·rw[if_pos h1,if_pos h1];exact⟨rfl,rfl⟩
   ·have h2:z≤p:=by simp[h1] at t0;exact t0
    rw[if_neg h1,if_neg h1,if_pos h2,if_pos h2];exact⟨rfl,rfl⟩)
  have hor:decide (p<1)=true∨(decide (p<1)=false∧decide (z≤p)=true):=by
   cases h1:decide (p<1) with
   | true=>exact .inl rfl
   | false=>rw[h1] at t0;exact .inr ⟨rfl,by simpa using t0⟩
  clear t0;rcases hor with t1|⟨t1,t2⟩
  all_goals
   go_enter Tryz.func93,Tryz.ntmps93
   go_upto_region 1 with (refine al 57 refZ rfl rfl cJ ?_)
   rw[← hw1];clear hw1;go_wp2_with (first
    | (refine ld 57 _ rfl rfl rfl HR1.out Tryz.underlying57 rfl (hlen m r) ?_)
    | (refine bC (cells:=aA m r) 57 (.tmp 12) (.tmp 21) rfl rfl rfl rfl HB1.out bG rfl h1 ?_;intro w4 hB4 hb4 ho4 hs4;have HB4:=jz hB4;have HE4:=jz hb4;clear hB4 hb4 ho4 hs4))
   have hbw:Below w.heap.size w w4:=HW1.trans (HE4.mono (by omega));have hr4:=HB4.range;exact bodyPost_ret (aJ rfl _ rfl hr4 Tryz.underlying57 rfl (hlen m r)) rfl ⟨m,by rw[HV.out.1,HV.out.2];rfl,by rw[HV.out.1];exact HK.keep hbw,hbw,by rw[HV.out.1];exact fun b hb=>.inl hb⟩
 ·have t1:decide (p<1)=false:=by cases h:decide (p<1) with|true=>rw[h] at t0;cases t0|false=>rfl
  have t2:decide (z≤p)=false:=by cases h:decide (z≤p) with|true=>rw[h] at t0;simp at t0|false=>rfl
  have hp1:¬p<1:=of_decide_eq_false t1;have hp2:¬z≤p:=of_decide_eq_false t2;clear t0;go_enter Tryz.func93,Tryz.ntmps93
  go_upto_region 1 with (refine al 57 refZ rfl rfl cJ ?_)
  rw[← hw1];clear hw1;go_wp2_with (refine ld 35 _ rfl rfl rfl hre Tryz.underlying35 rfl hue ?_)
  refine(lI q w1 HQ.out).mono ?_;rintro e w2 ⟨rfl,hb2⟩;have HA2:=jz (HA1.keep hb2);have HE2:=jz (HE1.keep hb2);have HB2:=jz (HB1.keep hb2);have HW2:=jz (aB HW1.out hb2);clear hb2 HA1 HE1 HB1 HW1 HR1 hre;cases hrq:aS q with
  | false=>
   have HV:Hid (fS r f z p g q=r∧e9 r f z p g q=15):=jz (by unfold fS e9;rw[if_neg (show ¬p<1 by omega),if_neg (show ¬p<1 by omega),if_neg (show ¬z≤p by omega),if_neg (show ¬z≤p by omega),hrq];exact⟨rfl,rfl⟩);have hr2:=HA2.range;go_wp2_with (first
    | (refine ld 57 _ rfl rfl rfl hr2 Tryz.underlying57 rfl (hlen m r) ?_)
    | (refine bC (cells:=aA m r) 57 (.tmp 12) (.tmp 25) rfl rfl rfl rfl HB2.out bG rfl h1 ?_;intro w4 hB4 hb4 ho4 hs4;have HB4:=jz hB4;have HE4:=jz hb4;clear hB4 hb4 ho4 hs4))
   have hbw:Below w.heap.size w w4:=HW2.trans (HE4.mono (by omega));have hr4:=HB4.range;exact bodyPost_ret (aJ rfl _ rfl hr4 Tryz.underlying57 rfl (hlen m r)) rfl ⟨m,by rw[HV.out.1,HV.out.2];rfl,by rw[HV.out.1];exact HK.keep hbw,hbw,by rw[HV.out.1];exact fun b hb=>.inl hb⟩
  | true=>
   have HV:Hid (fS r f z p g q=cX r (f+p) (aD g q)∧e9 r f z p g q=eU r (f+p) (aD g q)):=jz (by unfold fS e9;rw[if_neg (show ¬p<1 by omega),if_neg (show ¬p<1 by omega),if_neg (show ¬z≤p by omega),if_neg (show ¬z≤p by omega),if_pos hrq,if_pos hrq];exact⟨rfl,rfl⟩);have HRQ:=jz hrq;obtain⟨wS,hwS⟩:=je w2.drew;have hbS:Below w2.heap.size w2 wS:=by rw[hwS];exact(Below.refl _ _).drew
   have HAS:=jz (HA2.keep hbS);have HES:=jz (HE2.keep hbS);have HBS:=jz (HB2.keep hbS);have HWS:=jz (aB HW2.out hbS);have hsS:w.heap.size+3≤wS.heap.size:=by have:=HBS.lt;omega
   have HST:Hid (∀ W:World,Below wS.heap.size wS W→W.rangeAt w.heap.size 0 (aA m r).toList∧W.rangeAt (w.heap.size+1) 0 (aC q)):=jz (fun W hb=>⟨(HAS.keep hb).range,by have h:=(HES.keep hb).range;rw[jt] at h;exact h⟩);have HSR:Hid (Sec (aD g q)):=jz (dX g HQ.out);have hEl:=mM HQ.out;have hEb:Bys (q.1++beB 8 q.2.toNat):=fun x hx=>by
    rcases List.mem_append.1 hx with hx|hx
    ·exact HQ.dig.byte x hx
    ·exact gF _ _ x hx
   have HMK:=jz (fun(v:Value) (W:World) (hs:Sn W 1 v (q.1++beB 8 q.2.toNat).length (u8s (q.1++beB 8 q.2.toNat)))=>(show Calls Tryz.prog 126 #[.int .u32 g,v] W fun e w'=>e = .returned (.agg (u8s (aD g q)).toArray)∧Below W.heap.size W w' from rL g (q.1++beB 8 q.2.toNat) v W hs hEb hEl));have HPY:=jz (fun W=>pC q W HQ.out HRQ.out);have h40:Hid ((q.1++beB 8 q.2.toNat).length=40):=jz (by rw[List.length_append,HQ.dig.len,bB]);have HWR:=jz (fun(W:World) (hb:Below wS.heap.size wS W)=>pF m r (f+p) (aD g q) W (HK.keep (aB HWS.out hb)) HSR.out ⟨by omega,by omega⟩ hst ho);have hue2:=jz hue;clear hEb hEl hbS;go_upto_region 5 with fail
   refine aQ 13 (fun w'=>w'.rangeAt w.heap.size 0 (aA m r).toList∧w'.rangeAt (w.heap.size+1) 0 (aC q)) (by kernel_rfl) (by kernel_rfl) (by rw[← hwS];exact HST.out _ (Below.refl _ _)) (fun hH=>?_);rw[← hwS] at hH ⊢;clear hwS;refine jL 0 57 (.tmp 6) (some 26) (cs:=(aA m r).toList) (fun _ hX=>hX.1) Tryz.underlying57 rfl (hlen m r) hH ?_;simp only[jq];refine jM 1 (.tmp 1) (some 27) (.int .i64 f) hH ?_;simp only[jq];refine jM 2 (.tmp 3) (some 28) (.int .i64 p) hH ?_;simp only[jq];refine jT 3 (.binOp .add 3 (.tmp 27) (.tmp 28) 3) (some 29) (.int .i64 (f+p)) (hy:=fun o ho wX hX=>by unfold execOp;simp only[ho];go_simp;exact IntWalk.i64_in _ (by omega)) hH ?_;simp only[jq];refine jM 4 (.tmp 4) (some 30) (.int .u32 g) hH ?_;simp only[jq];refine jL 5 35 (.tmp 11) (some 31) (cs:=aC q) (fun _ hX=>hX.2) Tryz.underlying35 rfl hue2.out hH ?_;simp only[jq];refine jW [6] ?_;refine jC 6 (.call { callee:=.value (.func 127),args:=#[.tmp 31],argTypes:=#[35] }) (some 32) 127 #[.agg (aC q).toArray] ?_ jN;refine(HPY.out wS).mono ?_;rintro e w4 ⟨v4,rfl,ho4,hb4⟩;refine⟨_,rfl,HST.out _ hb4,fun _=>?_⟩;simp only[jq];refine jW [7] ?_;refine jC 7 (.call { callee:=.value (.func 126),args:=#[.tmp 30,.tmp 32],argTypes:=#[59,78] }) (some 33) 126 #[.int .u32 g,v4] ?_ jN;refine(HMK.out v4 w4 (by rw[h40.out];exact Sn.own ho4)).mono ?_;rintro e w5 ⟨rfl,hb5⟩;have hB5:=aB hb4 hb5;refine⟨_,rfl,HST.out _ hB5,fun _=>?_⟩;simp only[jq];refine jW [8] ?_;refine jC 8 (.call { callee:=.value (.func 125),args:=#[.tmp 26,.tmp 29,.tmp 33],argTypes:=#[57,3,144] }) (some 34) 125 #[.agg (aA m r),.int .i64 (f+p),.agg (u8s (aD g q)).toArray] ?_ jN;refine(HWR.out w5 hB5).mono ?_;rintro e w9 ⟨m9,rfl,hk9,hb9,hr9⟩;have hlt5:=hB5.size;have hB9:=aB hB5 hb9;refine⟨_,rfl,HST.out _ hB9,fun hH=>?_⟩;simp only[jq];refine jT 9 (.extract (.tmp 34) 0) (some 35) (.agg (aA m9 (cX r (f+p) (aD g q)))) (by assumption) ?_;simp only[jq];refine jT 10 (.extract (.tmp 34) 1) (some 36) (.int .i64 (eU r (f+p) (aD g q))) (by assumption) ?_;simp only[jq];have hoth:∀ k,k≠w.heap.size+2→(w9.setCells (w.heap.size+2) 0 (aA m9 (cX r (f+p) (aD g q))).toList).heap[k]? = w9.heap[k]?:=fun k hk=>bA hk _ _ _
   have hsz:(w9.setCells (w.heap.size+2) 0 (aA m9 (cX r (f+p) (aD g q))).toList).heap.size=w9.heap.size:=(aO (B:=0) (Nat.zero_le _) _ _ _).2;have hS9:(w9.setCells (w.heap.size+2) 0 (aA m9 (cX r (f+p) (aD g q))).toList).rangeAt w.heap.size 0 (aA m r).toList∧(w9.setCells (w.heap.size+2) 0 (aA m9 (cX r (f+p) (aD g q))).toList).rangeAt (w.heap.size+1) 0 (aC q):=⟨Blk.range (t:=57) (cs:=aA m r) ((hoth w.heap.size (by omega)).trans (HAS.keep hB9)),fun i u hi=>(World.cell?_of_block (a:=⟨w.heap.size+1,0+i,none⟩) (hoth (w.heap.size+1) (by omega))).trans ((HST.out _ hB9).2 i u hi)⟩;have honel:∀ u∈(aA m9 (cX r (f+p) (aD g q))).toList,u.oneCell'=true:=fun u hu=>by have:=aR hk9;rw[Array.all_eq_true_iff_forall_mem] at this;exact this u (by simpa using hu)
   refine jW [11] ?_;refine jR 11 57 (.tmp 12) (.tmp 35) none (cs:=(aA m9 (cX r (f+p) (aD g q))).toList) (aF (HBS.keep hB9) rfl) (hlen _ _) honel hS9 ?_ jN;simp only[jq];refine jW [12] ?_;refine jS 12 (.assign (.tmp 36)) (some 13) (.int .i64 (eU r (f+p) (aD g q))) (w9.setCells (w.heap.size+2) 0 (aA m9 (cX r (f+p) (aD g q))).toList) hS9 ?_ jN;simp only[jq];refine wpAnyH_done (by kernel_rfl) ?_ _;have HBZ:Hid (Blk (w9.setCells (w.heap.size+2) 0 (aA m9 (cX r (f+p) (aD g q))).toList) (w.heap.size+2) 57 (aA m9 (cX r (f+p) (aD g q)))):=jz (Blk.setAll _ (HBS.keep hB9) rfl);have HBW:Hid (Below w.heap.size w (w9.setCells (w.heap.size+2) 0 (aA m9 (cX r (f+p) (aD g q))).toList)):=jz ((aB HWS.out hB9).trans (aO (by omega) _ _ _).1);have HSUB:Hid (∀ b∈aL m9 (cX r (f+p) (aD g q)),b∈aL m r∨w.heap.size+3≤b):=jz (fun b hm=>by
    rcases hr9 b hm with h|h
    ·exact .inl h
    ·exact .inr (by omega))
   have HKZ:Hid (RK (w9.setCells (w.heap.size+2) 0 (aA m9 (cX r (f+p) (aD g q))).toList) m9 (cX r (f+p) (aD g q))):=jz (rP HK.out hk9 HSUB.out ⟨by omega,by omega⟩ hoth hsz);obtain⟨wz,hwz⟩:=je ((w9.setCells (w.heap.size+2) 0 (aA m9 (cX r (f+p) (aD g q))).toList));rw[← hwz] at HBZ HBW HKZ ⊢;clear hwz hS9 hoth hsz honel hk9 hB9 hb9 hr9 hH;go_wp2_with fail
   have hr7:=HBZ.range;exact bodyPost_ret (aJ rfl _ rfl hr7 Tryz.underlying57 rfl (hlen _ _)) rfl ⟨m9,by rw[HV.out.1,HV.out.2];rfl,by rw[HV.out.1];exact HKZ.out,HBW.out,fun b hm=>by
    rw[HV.out.1] at hm
    rcases HSUB.out b hm with h|h
    ·exact .inl h
    ·exact .inr (by omega)⟩
def fM(l:List PEv)(k:Int):StA:=l.foldl (stF k) (false,false,([],.slice none 0 0))
structure Rel(d:DiskD)(r:RefD):Prop where
 sec:d.sec=r.sec
 opn:d.opn=r.opn
 down:d.down=r.down
 st:(d.steps:Int)=r.steps
 fl:∀ k:Int,r.steps<k→d.fl k=(fM r.plan k).1
 cr:∀ k:Int,r.steps<k→d.cr k=if (fM r.plan k).2.1 then some (fM r.plan k).2.2.1 else none
theorem Rel.new(n:Nat):Rel (fV n) (iG n):=⟨rfl,rfl,rfl,rfl,fun _ _=>rfl,fun _ _=>rfl⟩
theorem jX(l:List PEv)(p:PEv)(k:Int):fM (l++[p]) k=stF k (fM l k) p:=by
 unfold fM;rw[List.foldl_append];rfl
section
variable {d : DiskD} {r : RefD}
theorem Rel.nxt(h:Rel d r):((d.steps+1:Nat):Int)=r.steps+1:=by have:=h.st;omega
theorem Rel.crS(h:Rel d r):d.cr ((d.steps+1:Nat):Int)=if (b8 r).2.1 then some (b8 r).2.2.1 else none:=by rw[h.nxt];exact h.cr _ (by omega)
theorem Rel.flS(h:Rel d r):d.fl ((d.steps+1:Nat):Int)=(b8 r).1:=by rw[h.nxt];exact h.fl _ (by omega)
theorem Rel.out(h:Rel d r):gK d=if (b8 r).2.1 then 2 else if (b8 r).1 then 1 else 0:=by
 unfold gK;rw[h.crS,h.flS];cases (b8 r).2.1 <;> rfl
theorem Rel.cuts(h:Rel d r)(h2:(b8 r).2.1=true):d7 d=(b8 r).2.2.1:=by
 unfold d7;rw[h.crS,h2];rfl
theorem Rel.step(h:Rel d r):Rel (stepped d) (bD r) where
 sec:=h.sec
 opn:=h.opn
 down:=h.down
 st:=h.nxt
 fl:=fun k hk=>by
  have hk:r.steps+1<k:=hk;show(if k=((d.steps+1:Nat):Int) then false else d.fl k)=_;rw[if_neg (by rw[h.nxt];omega)];exact h.fl k (by omega)
 cr:=fun k hk=>by
  have hk:r.steps+1<k:=hk;show(if k=((d.steps+1:Nat):Int) then none else d.cr k)=_;rw[if_neg (by rw[h.nxt];omega)];exact h.cr k (by omega)
theorem Rel.has(h:Rel d r)(a:Int):eD d a=iO r a:=by unfold eD iO;rw[h.sec]
theorem Rel.add(h:Rel d r)(a:Int)(s:List Int):Rel (addIf d a s) (eZ r a s):=by
 unfold addIf eZ;rw[h.has];split
 ·exact⟨h.sec,by show d.opn++[(a,s)]=r.opn++[(a,s)];rw[h.opn],h.down,h.st,h.fl,h.cr⟩
 ·exact h
theorem Rel.crash(h:Rel d r)(cl:List Int):Rel (eE d cl) (bH r cl):=
 ⟨by show bK d.sec d.opn cl=bK r.sec r.opn cl;rw[h.sec,h.opn],rfl,rfl,h.st,h.fl,h.cr⟩
theorem Rel.clean(h:Rel d r):Rel (yH d) (dZ r):=
 ⟨by show dJ d.sec d.opn d.opn.length=dJ r.sec r.opn r.opn.length;rw[h.sec,h.opn],rfl,h.down,h.st,h.fl,h.cr⟩
theorem Rel.start(h:Rel d r):Rel (dW d) { r with down:=false }:=⟨h.sec,h.opn,rfl,h.st,h.fl,h.cr⟩
theorem Rel.write(h:Rel d r)(a:Int)(s:List Int):Rel (writeD d a s) (aI r a s):=by
 unfold writeD aI;rw[h.down,h.out];cases hd:r.down with
 | true=>exact h
 | false=>
  cases h2:(b8 r).2.1 with
  | true=>
   have:=(h.step.add a s).crash (b8 r).2.2.1;rw[← h.cuts h2] at this;rw[← h.cuts h2];exact this
  | false=>
   cases h1:(b8 r).1 with
   | true=>exact h.step
   | false=>exact h.step.add a s
theorem Rel.writeA(h:Rel d r)(a:Int):cQ (writeA d a)=aV r a∧(writeA d a=none ↔ aV r a=0):=by
 unfold Go.Proofs.YtombncedfleljaaGreat.writeA aV;rw[h.down,h.out,h.has];cases r.down <;> cases (b8 r).2.1 <;> cases (b8 r).1 <;> cases iO r a <;> simp[cQ]
theorem Rel.sync(h:Rel d r):Rel (syncS d) (bL r):=by
 unfold syncS bL;rw[h.down,h.out];cases hd:r.down with
 | true=>exact h
 | false=>
  cases h2:(b8 r).2.1 with
  | true=>
   have:=h.step.crash (b8 r).2.2.1;rw[← h.cuts h2] at this;rw[← h.cuts h2];exact this
  | false=>
   cases h1:(b8 r).1 with
   | true=>exact h.step
   | false=>exact h.step.clean
theorem Rel.syncA(h:Rel d r):cQ (syncA d)=bX r∧(syncA d=none ↔ bX r=0):=by
 unfold Go.Proofs.YtombncedfleljaaGreat.syncA bX;rw[h.down,h.out];cases r.down <;> cases (b8 r).2.1 <;> cases (b8 r).1 <;> simp[cQ]
theorem Rel.ws(h:Rel d r)(a:Int)(s:List Int):Rel (wsD d a s) (cX r a s):=by
 unfold wsD cX;have hw:=h.writeA a;cases ha:Go.Proofs.YtombncedfleljaaGreat.writeA d a with
 | none=>rw[if_pos (hw.2.1 ha)];exact(h.write a s).sync
 | some x=>rw[if_neg (fun e=>by have:=hw.2.2 e;rw[ha] at this;cases this)];exact h.write a s
theorem Rel.wsA(h:Rel d r)(a:Int)(s:List Int):cQ (wsA d a s)=eU r a s∧(wsA d a s=none ↔ eU r a s=0):=by
 unfold Go.Proofs.YtombncedfleljaaGreat.wsA eU;have hw:=h.writeA a;cases ha:Go.Proofs.YtombncedfleljaaGreat.writeA d a with
 | none=>rw[if_pos (hw.2.1 ha)];exact(h.write a s).syncA
 | some x=>
  rw[if_neg (fun e=>by have:=hw.2.2 e;rw[ha] at this;cases this)];rw[ha] at hw;exact hw
theorem CN(z p:Int)(hp:¬p<1):room z<p ↔ z≤p:=by
 unfold room;split <;> omega
theorem Rel.put(h:Rel d r)(f z p:Int)(g:Nat)(q:aW):Rel (putD d f z p g q) (fS r f z p g q):=by
 unfold putD fS;by_cases hp:p<1
 ·rw[if_pos hp,if_pos hp];exact h
 ·rw[if_neg hp,if_neg hp];have hz:=CN z p hp;by_cases h2:z≤p
  ·rw[if_pos h2,if_pos (hz.2 h2)];exact h
  ·rw[if_neg h2,if_neg (fun e=>h2 (hz.1 e))];split
   ·exact h.ws _ _
   ·exact h
theorem Rel.putA(h:Rel d r)(f z p:Int)(g:Nat)(q:aW):cQ (putA d f z p g q)=e9 r f z p g q∧(putA d f z p g q=none ↔ e9 r f z p g q=0):=by
 unfold Go.Proofs.YtombncedfleljaaGreat.putA e9;by_cases hp:p<1
 ·rw[if_pos hp,if_pos hp];exact⟨rfl,by simp⟩
 ·rw[if_neg hp,if_neg hp];have hz:=CN z p hp;by_cases h2:z≤p
  ·rw[if_pos h2,if_pos (hz.2 h2)];exact⟨rfl,by simp⟩
  ·rw[if_neg h2,if_neg (fun e=>h2 (hz.1 e))];split
   ·exact h.wsA _ _
   ·exact⟨rfl,by simp⟩
end
theorem Rel.fillW:∀(L:List (List Int)) {d:DiskD} {r:RefD} (_:Rel d r) (a:Int),Rel (fillW d a L).2 (dO r a L).1∧cQ (fillW d a L).1=(dO r a L).2∧((fillW d a L).1=none ↔ (dO r a L).2=0)
 | [],d,r,h,a=>⟨h.sync,h.syncA⟩
 | s :: L,d,r,h,a=>by
  unfold Go.Proofs.YtombncedfleljaaGreat.fillW dO;have hw:=h.writeA a;cases ha:Go.Proofs.YtombncedfleljaaGreat.writeA d a with
  | none=>rw[if_pos (hw.2.1 ha)];exact Rel.fillW L (h.write a s) (a+1)
  | some x=>
   rw[if_neg (fun e=>by have:=hw.2.2 e;rw[ha] at this;cases this)];rw[ha] at hw;exact⟨h.write a s,hw⟩
theorem GF(z:Int)(n:Nat):room z<n ↔ max (z-1) 0<(n:Int):=by
 unfold room;split <;> omega
theorem Rel.fill{d:DiskD}{r:RefD}(h:Rel d r)(f z:Int)(g:Nat)(l:List aW):Rel (fillR d f z g l).2 (bP r f z g l).1∧cQ (fillR d f z g l).1=(bP r f z g l).2∧((fillR d f z g l).1=none ↔ (bP r f z g l).2=0):=by
 unfold fillR bP;have hz:=GF z l.length;by_cases h2:max (z-1) 0<(l.length:Int)
 ·rw[if_pos h2,if_pos (hz.2 h2)];exact⟨h,rfl,by simp⟩
 ·rw[if_neg h2,if_neg (fun e=>h2 (hz.1 e))];split
  ·exact Rel.fillW _ h _
  ·exact⟨h,rfl,by simp⟩
theorem Rel.planF{d:DiskD}{r:RefD}(h:Rel d r)(n:Int)(cl:List Int)(v:Value):Rel (planF d n) (bE r n false cl v):=by
 unfold Go.Proofs.YtombncedfleljaaGreat.planF bE;split
 ·exact h
 ·refine⟨h.sec,h.opn,h.down,h.st,fun k hk=>?_,fun k hk=>?_⟩
  ·have hk:r.steps<k:=hk;show(if k=(d.steps:Int)+n then true else d.fl k)=(fM (r.plan++[_]) k).1;rw[jX,h.st];unfold stF;by_cases e:k=r.steps+n
   ·rw[if_pos e,if_pos e.symm];rfl
   ·rw[if_neg e,if_neg (fun e2=>e e2.symm)];exact h.fl k hk
  ·have hk:r.steps<k:=hk;show d.cr k=if (fM (r.plan++[_]) k).2.1 then some (fM (r.plan++[_]) k).2.2.1 else none
   rw[jX];by_cases e:k=r.steps+n
   ·rw[show stF k (fM r.plan k) ⟨r.steps+n,false,cl,v⟩=(true,(fM r.plan k).2.1,(fM r.plan k).2.2) from if_pos e.symm];exact h.cr k hk
   ·rw[show stF k (fM r.plan k) ⟨r.steps+n,false,cl,v⟩=fM r.plan k from if_neg (fun e2=>e e2.symm)];exact h.cr k hk
theorem Rel.planC{d:DiskD}{r:RefD}(h:Rel d r)(n:Int)(cl:List Int)(v:Value):Rel (planC d n cl) (bE r n true cl v):=by
 unfold Go.Proofs.YtombncedfleljaaGreat.planC bE;split
 ·exact h
 ·refine⟨h.sec,h.opn,h.down,h.st,fun k hk=>?_,fun k hk=>?_⟩
  ·have hk:r.steps<k:=hk;show d.fl k=(fM (r.plan++[_]) k).1;rw[jX];unfold stF;by_cases e:k=r.steps+n
   ·rw[if_pos e.symm];exact h.fl k hk
   ·rw[if_neg (fun e2=>e e2.symm)];exact h.fl k hk
  ·have hk:r.steps<k:=hk;show(if k=(d.steps:Int)+n then some cl else d.cr k)=if (fM (r.plan++[_]) k).2.1 then some (fM (r.plan++[_]) k).2.2.1 else none
   rw[jX,h.st];unfold stF;by_cases e:k=r.steps+n
   ·rw[if_pos e,if_pos e.symm];rfl
   ·rw[if_neg e,show(if (⟨r.steps+n,true,cl,v⟩:PEv).step=k then _ else fM r.plan k)=fM r.plan k from if_neg (fun e2=>e e2.symm)];exact h.cr k hk
def rdR(r:RefD)(a:Int):List Int:=if r.down then zsec else if iO r a then (((r.opn.filter (fun p=>p.1 == a)).getLast?).map (·.2)).getD (r.sec.getD a.toNat []) else zsec
theorem Rel.rd{d:DiskD}{r:RefD}(h:Rel d r)(a:Int):rdS d a=rdR r a:=by
 unfold rdS rdR;rw[h.down,h.has];unfold rdD;rw[h.opn,h.sec]
def dC(r:RefD)(a:Int):Nat→List (List Int)
 | 0=>[]
 | n+1=>rdR r a :: dC r (a+1) n
theorem Rel.secs{d:DiskD}{r:RefD}(h:Rel d r)(hd:r.down=false):∀(n:Nat) (a:Int),0≤a→a.toNat+n≤r.sec.length→dY d a n=(dC r a n).map (fun s=>(s,none))
 | 0,a,_,_=>rfl
 | n+1,a,h0,hl=>by
  have hh:eD d a=true:=by unfold eD;rw[h.sec];simp;omega
  have e1:rdA d a=none:=by unfold rdA;rw[h.down,hd,hh];rfl
  rw[dY,e1,if_pos rfl,h.rd,Rel.secs h hd n (a+1) (by omega) (by omega)];rfl
theorem Rel.scan{d:DiskD}{r:RefD}(h:Rel d r)(hd:r.down=false)(n:Nat)(a:Int)(h0:0≤a)(hl:a.toNat+n≤r.sec.length):dM (none,[]) (dY d a n)=(bT (none,[]) (dC r a n),none):=by
 rw[h.secs hd n a h0 hl,mL]
end
section
open Go.RowKit
attribute [local irreducible] wpQuiet wpAnyH
def wQ(r:RefD)(a:Int):Int:=if r.down then 12 else if iO r a then 0 else 15
def rdK(r:RefD)(a:Int)(k:Nat):List Int:=((((r.opn.take k).filter (fun p=>p.1 == a)).getLast?).map (·.2)).getD (r.sec.getD a.toNat [])
theorem CP{r:RefD}{a:Int}{k:Nat}(hk:k<r.opn.length)(he:r.opn[k].1=a):rdK r a (k+1)=r.opn[k].2:=by
 unfold rdK;rw[List.take_succ_eq_append_getElem hk,List.filter_append];simp[he]
theorem GG{r:RefD}{a:Int}{k:Nat}(hk:k<r.opn.length)(he:r.opn[k].1≠a):rdK r a (k+1)=rdK r a k:=by
 unfold rdK;rw[List.take_succ_eq_append_getElem hk,List.filter_append];simp[he]
theorem wR{r:RefD}(h:ROk r){a:Int}(h0:0≤a)(h1:a<r.sec.length):∀ k,k≤r.opn.length→Sec (rdK r a k)
 | 0,_=>by
  have hlt:a.toNat<r.sec.length:=by omega
  have:rdK r a 0=r.sec[a.toNat]:=by unfold rdK;simp[hlt]
  rw[this];exact h.sec _ (List.getElem_mem hlt)
 | k+1,hk=>by
  by_cases he:r.opn[k].1=a
  ·rw[CP (by omega) he];exact(h.opn _ (List.getElem_mem (by omega))).2.2
  ·rw[GG (by omega) he];exact wR h h0 h1 k (by omega)
theorem qF{r:RefD}(h:ROk r)(a:Int):Sec (rdR r a):=by
 unfold rdR;cases hd:r.down with
 | true=>exact eC
 | false=>
  cases hh:iO r a with
  | false=>exact eC
  | true=>
   have h2:0≤a∧a<r.sec.length:=by unfold iO at hh;simpa using hh
   have:=wR h h2.1 h2.2 r.opn.length (Nat.le_refl _);unfold rdK at this;rw[List.take_length] at this;exact this
theorem rR(m:RM)(r:RefD)(a:Int)(w:World)(h:RK w m r)(ha:aK a):
  Calls Tryz.prog 151 #[.agg (aA m r),.int .i64 a] w fun e w'=>e = .returned (.tuple #[.agg (u8s (rdR r a)).toArray,.int .i64 (wQ r a)])∧Below w.heap.size w w':=by
 obtain⟨As,cs,es⟩:=h.sec.slc;obtain⟨Ao,co,eo⟩:=h.opn.slc;have HK:=jz h;have hcells:aA m r=#[.slice As r.sec.length cs,.slice Ao r.opn.length co,.bool r.down,.int .i64 r.steps,m.pv]:=by unfold aA;rw[es,eo]
 have HSC:Hid (Sn w 64 (.slice As r.sec.length cs) r.sec.length (r.sec.flatMap u8s)):=jz (by rw[← es];exact h.sec);have HOP:Hid (Sn w 65 (.slice Ao r.opn.length co) r.opn.length (r.opn.flatMap wrC)):=jz (by rw[← eo];exact h.opn);obtain⟨w1,hw1⟩:=je ((w.alloc (.cells (aA m r) 57)).alloc (.cells z64 144));have hA1:Blk w1 w.heap.size 57 #[.slice As r.sec.length cs,.slice Ao r.opn.length co,.bool r.down,.int .i64 r.steps,m.pv]:=by rw[hw1,← hcells];exact(Blk.new _ _ _).alloc _
 have hB1:Blk w1 (w.heap.size+1) 144 z64:=by rw[hw1];exact Blk.newAt _ _ _ _ (by simp)
 have hb1:Below w.heap.size w w1:=by rw[hw1];exact aB (aN _ _) (aN _ _)
 have hsz1:w1.heap.size=w.heap.size+2:=by rw[hw1];simp
 have hc0:=hA1.cell 0;have hc2:=hA1.cell 2;simp only[List.getElem?_toArray,List.getElem?_cons_zero,List.getElem?_cons_succ] at hc0 hc2;have hzl:z64.size=64:=cN;have HZ:=jz gJ;have HZ1:Hid (z64.all (·.oneCell')=true):=jz (by rw[gJ];exact cS _);have HU:Hid (∀ s,Sec s→(Tryz.prog.info? 144).map (·.size)=some (u8s s).length):=jz (fun s hs=>by rw[aG hs];kernel_rfl);have HZS:Hid (Sec zsec):=jz eC;have a1 : -9223372036854775808≤a:=ha.1;have a2:a≤9223372036854775807:=ha.2;have HA1:=jz hA1;have HB1:=jz hB1;have HW1:=jz hb1;have hlen4:(r.sec.length:Int)≤4096:=by have:=h.ok.few;omega
 have hlo:(r.opn.length:Int)≤50000:=by have:=h.ok.lo;omega
 clear hA1 hB1 hb1 h ha es eo hcells;cases hd:r.down with
 | true=>
  rw[hd] at hc2;have HF:Hid (rdR r a=zsec∧wQ r a=12):=jz (by unfold rdR wQ;rw[hd];exact⟨rfl,rfl⟩);clear hd;go_enter Tryz.func151,Tryz.ntmps151
  go_upto_region 1 with (refine al 144 z64 rfl rfl cK ?_)
  rw[← hw1];clear hw1;go_wp2_with (first
   | (refine bld 144 #[] rfl rfl rfl lD ?_)
   | (refine bC 144 (.tmp 4) (.tmp 10) rfl rfl rfl rfl HB1.out (by rw[hzl];kernel_rfl) rfl HZ1.out ?_;intro w3 hB3 hb3 _ _;have HB3:=jz hB3;have HE3:=jz hb3;clear hB3 hb3))
  have hr:w3.rangeAt (w.heap.size+1) 0 (u8s zsec):=by have h:=HB3.range;rw[HZ.out,jt] at h;exact h
  exact bodyPost_ret (bI rfl _ rfl hr Tryz.underlying144 rfl (HU.out _ HZS.out)) rfl ⟨by rw[HF.out.1,HF.out.2];rfl,HW1.trans (HE3.mono (by omega))⟩
 | false=>
  rw[hd] at hc2;cases hh:iO r a with
  | false=>
   have HF:Hid (rdR r a=zsec∧wQ r a=15):=jz (by unfold rdR wQ;rw[hd,hh];exact⟨rfl,rfl⟩);have hout:a<0∨(0≤a∧(r.sec.length:Int)≤a):=by
    unfold iO at hh;rcases Int.lt_or_le a 0 with h|h
    ·exact .inl h
    ·simp[h] at hh;exact .inr ⟨h,hh⟩
   clear hd hh;rcases hout with t1|⟨t1,t2⟩
   all_goals
    go_enter Tryz.func151,Tryz.ntmps151
    go_upto_region 1 with (refine al 144 z64 rfl rfl cK ?_)
    rw[← hw1];clear hw1;go_wp2_with (first
     | (refine bld 144 #[] rfl rfl rfl lD ?_)
     | (refine bC 144 (.tmp 4) (.tmp 20) rfl rfl rfl rfl HB1.out (by rw[hzl];kernel_rfl) rfl HZ1.out ?_;intro w3 hB3 hb3 _ _;have HB3:=jz hB3;have HE3:=jz hb3;clear hB3 hb3))
    have hr:w3.rangeAt (w.heap.size+1) 0 (u8s zsec):=by have h:=HB3.range;rw[HZ.out,jt] at h;exact h
    exact bodyPost_ret (bI rfl _ rfl hr Tryz.underlying144 rfl (HU.out _ HZS.out)) rfl ⟨by rw[HF.out.1,HF.out.2];rfl,HW1.trans (HE3.mono (by omega))⟩
  | true=>
   have hh2:0≤a∧a<r.sec.length:=by unfold iO at hh;simpa using hh
   have HF:Hid (rdR r a=rdK r a r.opn.length∧wQ r a=0):=jz (by unfold rdR wQ rdK;rw[hd,hh,List.take_length];exact⟨rfl,rfl⟩);have HRS:Hid (∀ k,k≤r.opn.length→Sec (rdK r a k)):=jz (wR HK.ok hh2.1 hh2.2);have HST:Hid (∀ s,Sec s→(64=(u8s s).toArray.size)∧((u8s s).toArray.all (·.oneCell')=true)∧(Tryz.prog.info? 144).map (·.size)=some (u8s s).toArray.size):=jz (fun s hs=>⟨by simp[aG hs],cS s,by simp only[js,aG hs];kernel_rfl⟩);clear hd hh;obtain⟨k,rfl⟩:=Int.eq_ofNat_of_zero_le hh2.1;have hk:k<r.sec.length:=by omega
   obtain⟨b,off,rfl,hr⟩:=vK HSC.out HK.ok.sec k hk;have HRG:Hid (w1.rangeAt b (off+k*64) (u8s (rdK r k 0))):=jz (by
    have e:rdK r k 0=r.sec[k]:=by unfold rdK;simp[hk]
    rw[e]
    exact fun j u hj=>Below.cell' HW1.out (hr j u hj))
   have t1:(0:Int)≤k:=hh2.1;have t2:(k:Int)<r.sec.length:=hh2.2;have HS0:=jz (HRS.out 0 (Nat.zero_le _));have HS3:=jz (HST.out _ HS0.out);have HW2:Hid (Below w.heap.size w (w1.alloc (.cells z64 144))):=jz (aB HW1.out (aN _ _));obtain⟨D0,hD0⟩:=je (u8s (rdK r k 0));rw[← hD0] at HRG HS3;have HD0:=jz hD0;clear hr hh2 hD0;go_enter Tryz.func151,Tryz.ntmps151
   go_upto_region 1 with (refine al 144 z64 rfl rfl cK ?_)
   rw[← hw1];clear hw1;go_upto_region 6 with (first
    | (refine ld 144 _ rfl rfl rfl HRG.out Tryz.underlying144 rfl (by simpa using HS3.out.2.2) ?_)
    | (refine al 144 z64 rfl rfl cK ?_)
    | (refine cR 144 (.tmp 6) (.tmp 25) rfl rfl rfl rfl HS3.out.2.2 (by rw[hzl];exact HS3.out.1) HS3.out.2.1 ?_;intro w3 hB3 hb3 hs3))
   rw[hsz1] at hB3 hb3 hs3 ⊢;have HB3:Hid (Blk w3 (w.heap.size+2) 144 (u8s (rdK r k 0)).toArray):=jz (by rw[← HD0.out];exact hB3);have hb13:Below (w.heap.size+2) w1 w3:=hb3;have HA3:Hid (Blk w3 w.heap.size 57 #[.slice (some ⟨b,off,none⟩) r.sec.length cs,.slice Ao r.opn.length co,.bool r.down,.int .i64 r.steps,m.pv]):=jz (HA1.below hb13 (by omega));have HZ3:Hid (Blk w3 (w.heap.size+1) 144 z64):=jz (HB1.below hb13 (by omega));have HW3:Hid (Below w.heap.size w w3):=jz (HW1.trans (hb13.mono (by omega)));clear hB3 hb3 hs3 hb13 hc0 hc2 HS3 HRG HW1 HW2 HA1 HB1;go_wp2_with fail
   go_loopw [7] (fun i wr=>∃ j:Nat,j≤r.opn.length∧i = .int .i64 (j:Int)∧Hid (Blk wr (w.heap.size+2) 144 (u8s (rdK r k j)).toArray)∧Hid (Blk wr w.heap.size 57 #[.slice (some ⟨b,off,none⟩) r.sec.length cs,.slice Ao r.opn.length co,.bool r.down,.int .i64 r.steps,m.pv])∧Hid (Blk wr (w.heap.size+1) 144 z64)∧Hid (Below w.heap.size w wr)) (fun i _=>r.opn.length-(intOf i).toNat)
   case atStart=>exact⟨0,Nat.zero_le _,rfl,HB3,HA3,HZ3,HW3⟩
   case round=>
    obtain⟨j,hj,rfl,HBr,HAr,HZr,HWr⟩:=hrel;have hc1:=HAr.cell 1;simp only[List.getElem?_toArray,List.getElem?_cons_zero,List.getElem?_cons_succ] at hc1;rcases Nat.lt_or_ge j r.opn.length with hlt|hge
    ·obtain⟨b1,o1,rfl,hr1⟩:=yC (HOP.below HWr.out) (fun p hp=>(HK.ok.opn p hp).2.2) j hlt;have HN:=jz (fun(he:r.opn[j].1=k)=>CP (r:=r) (a:=k) hlt he);have HM:=jz (fun(he:r.opn[j].1≠k)=>GG (r:=r) (a:=k) hlt he);have hp:=HK.ok.opn _ (List.getElem_mem hlt);obtain⟨⟨q,dat⟩,hpe⟩:∃ p,p=r.opn[j]:=⟨_,rfl⟩;rw[← hpe] at hr1 hp HN HM;clear hpe;have e0:wr.cell? ⟨b1,o1+j*65,none⟩=some (.int .i64 q):=hr1 0 _ rfl;have HRD:Hid (wr.rangeAt b1 (o1+j*65+1) (u8s dat)):=jz (fun i u hi=>by
      have:=hr1 (i+1) u hi
      rw[show o1+j*65+1+i=o1+j*65+(i+1) by omega]
      exact this)
     have HSD:=jz (HST.out _ hp.2.2);have hj0:(0:Int)≤j:=by omega
     have hj1:(j:Int)<r.opn.length:=by omega
     have HL64:Hid ((u8s (rdK r k j)).toArray.size=64):=jz ((HST.out _ (HRS.out j hj)).1.symm);clear hr1 hp;rcases jb (q == (k:Int)) with t3|t3
     ·have hq:q=k:=by simpa using t3
      have HN2:=jz (HN.out hq);clear HN HM hq;go_wp2_with (first
       | (refine ld 144 _ rfl rfl rfl HRD.out Tryz.underlying144 rfl (by simpa using HSD.out.2.2) ?_)
       | (refine bC 144 (.tmp 6) (.tmp 46) rfl rfl rfl rfl HBr.out HSD.out.2.2 (HL64.trans HSD.out.1) HSD.out.2.1 ?_;intro w4 hB4 hb4 ho4 hs4;have HB4:=jz hB4;have HE4:=jz hb4;have HO4:=jz ho4;clear hB4 hb4 ho4 hs4))
      exact⟨⟨j+1,by omega,by go_num,jz (by rw[HN2.out];exact HB4.out),jz ((HO4.out _ (by omega)).trans HAr.out),jz ((HO4.out _ (by omega)).trans HZr.out),jz (HWr.trans (HE4.mono (by omega)))⟩,by simp[intOf];omega⟩
     ·have hq:q≠k:=by simpa using t3
      have HM2:=jz (HM.out hq);clear HN HM hq;go_wp2_with fail
      exact⟨⟨j+1,by omega,by go_num,jz (by rw[HM2.out];exact HBr.out),HAr,HZr,HWr⟩,by simp[intOf];omega⟩
    ·obtain rfl:j=r.opn.length:=by omega
     have hr:=HBr.range;rw[jt] at hr;have HR:=jz hr;have HSE:=jz (HST.out _ (HRS.out r.opn.length (Nat.le_refl _)));clear hr;obtain⟨D1,hD1⟩:=je (u8s (rdK r k r.opn.length));rw[← hD1] at HR HSE;have HD1:=jz hD1;clear hD1;go_wp2_with (first
      | (refine ld 144 _ rfl rfl rfl HR.out Tryz.underlying144 rfl (by simpa using HSE.out.2.2) ?_)
      | (refine bC 144 (.tmp 4) (.tmp 47) rfl rfl rfl rfl HZr.out HSE.out.2.2 (hzl.trans HSE.out.1) HSE.out.2.1 ?_;intro w4 hB4 hb4 ho4 hs4;have HB4:=jz hB4;have HE4:=jz hb4;clear hB4 hb4 ho4 hs4))
     have hr4:w4.rangeAt (w.heap.size+1) 0 D1:=by have h:=HB4.range;rw[jt] at h;exact h
     exact bodyPost_ret (bI rfl _ rfl hr4 Tryz.underlying144 rfl (by simpa using HSE.out.2.2)) rfl ⟨by rw[HF.out.1,HF.out.2,← HD1.out];rfl,HWr.trans (HE4.mono (by omega))⟩
end
end Go.Proofs.YtombncedfleljaaGreat
