import Derived.Test.YtiaigidbcljblaaGreatDoorME15
import Derived.Test.YtiaigidbcljblaaGreatDoorME16
import Derived.Test.YtiaigidbcljblaaGreatDoorME11
import Derived.Test.YtiaigidbcljblaaGreatDoorME12
set_option linter.unusedSimpArgs false
set_option maxRecDepth 100000
set_option maxHeartbeats 40000000
namespace Go.Proofs.YtiaigidbcljblaaGreatDoor
open Go.RowKit
attribute [local irreducible] wpQuiet wpAnyH
def openF(d:DiskD):FSt:=fAt d (d.sec.length/2) ⟨0,lastN d d.sec.length,0,0,false⟩ 2
def openS(d:DiskD):Ans×DiskD×Option (LogD×List Ent2):=match (openF d).1 with
 | some es=>(none,d,some ((openF d).2,es))
 | none=>if lastN d d.sec.length=4294967295 then (some (13,none),d,none) else match wsA d 0 (rec (lastN d d.sec.length+1) toll) with
  | some x=>(some x,wsD d 0 (rec (lastN d d.sec.length+1) toll),none)
  | none=>(none,wsD d 0 (rec (lastN d d.sec.length+1) toll),some (⟨0,lastN d d.sec.length,lastN d d.sec.length+1,0,false⟩,[]))
def openR(d:DiskD):Ans×DiskD×Option (LogD×List Ent2):=if d.sec.length<2 then (some (15,none),d,none) else match syncA d with
 | some x=>(some x,syncS d,none)
 | none=>openS (syncS d)
theorem syncS_ok{d:DiskD}(h:syncA d=none):(syncS d).down=false∧(syncS d).opn=[]:=by
 unfold syncA at h
 unfold syncS
 split at h
 ·cases h
 ·rename_i hd
  split at h
  ·cases h
  ·rename_i h2
   split at h
   ·cases h
   ·rename_i h1
    rw[if_neg hd,if_neg h2,if_neg h1]
    exact⟨by simpa [syncD,stepped] using hd,rfl⟩
theorem syncS_rm{d:DiskD}(h:d.steps≤d.room):(syncS d).room≤d.room+1:=by
 have h1:=stepped_room h
 unfold syncS
 split
 ·omega
 ·split
  ·exact h1
  ·split
   ·exact h1
   ·exact h1
theorem fAt_inv(d:DiskD)(h:Nat)(L:LogD)(hL:L.side<2∧L.last<4294967296∧L.gen<4294967296∧L.cnt≤10000)(hs:∀ f,(slotS d f h).2.length≤10000∧∀ g,(slotS d f h).1=some g→g<4294967296):∀ k,k≤2 →
  ((fAt d h L k).1=none→(fAt d h L k).2=L)∧(fAt d h L k).2.side<2∧(fAt d h L k).2.last=L.last∧(fAt d h L k).2.gen<4294967296∧(fAt d h L k).2.cnt≤10000
 | 0,_=>⟨fun _=>rfl,hL.1,rfl,hL.2.2.1,hL.2.2.2⟩
 | k+1,hk=>by
  have ih:=fAt_inv d h L hL hs k (by omega)
  have h2:=hs (sFrom h k)
  unfold fAt fNext
  cases hg:(slotS d (sFrom h k) h).1 with
  | none=>exact ih
  | some g=>
   simp only
   split
   ·exact ih
   ·exact⟨fun e=>by simp at e,by show k<2;omega,ih.2.2.1,h2.2 g hg,h2.1⟩
theorem prsH_ltL{s:List Int}(hs:Sec s){g:Nat}(h:prsH s=some g):g<4294967296:=by
 unfold prsH at h
 cases hp:prs s with
 | none=>rw[hp] at h;cases h
 | some x=>
  obtain⟨g',p⟩:=x
  rw[hp] at h
  simp only at h
  split at h
  ·injection h with h
   subst h
   rw[prs_gen hp]
   exact tagS_lt hs
  ·cases h
theorem scanL_gen:∀(L:List (List Int)) (st:SSt),(∀ s∈L,Sec s)→(∀ g,st.1=some g→g<4294967296)→∀ g,(scanL st L).1=some g→g<4294967296
 | [],st,_,h0,g,h=>h0 g h
 | s :: L,st,hL,h0,g,h=>by
  rw[scanL] at h
  cases hq:stepS st s with
  | none=>rw[hq] at h;exact h0 g h
  | some st'=>
   rw[hq] at h
   refine scanL_gen L st' (fun x hx=>hL x (List.mem_cons_of_mem _ hx)) (fun g' hg'=>?_) g h
   have hs:=hL s (List.mem_cons_self ..)
   unfold stepS at hq
   cases h1:st.1 with
   | none=>
    rw[h1] at hq
    simp only at hq
    cases hp:prsH s with
    | none=>rw[hp] at hq;cases hq
    | some g2=>
     rw[hp] at hq
     simp only[Option.map_some,Option.some.injEq] at hq
     rw[← hq] at hg'
     simp only[Option.some.injEq] at hg'
     rw[← hg']
     exact prsH_ltL hs hp
   | some g2=>
    rw[h1] at hq
    simp only at hq
    cases hp:prsE s with
    | none=>rw[hp] at hq;cases hq
    | some ge=>
     rw[hp] at hq
     simp only at hq
     split at hq
     ·simp only[Option.some.injEq] at hq
      rw[← hq] at hg'
      simp only[Option.some.injEq] at hg'
      rw[← hg']
      exact h0 g2 h1
     ·cases hq
theorem slot_inv{d:DiskD}(h:DOk d)(f n:Nat):(slotS d f n).2.length≤10000∧∀ g,(slotS d f n).1=some g→g<4294967296:=by
 have h1:=scanL_len ((d.sec.drop f).take n) (none,[])
 have h2:=h.few
 rw[List.length_take,List.length_drop] at h1
 refine⟨by unfold slotS;simp at h1;omega,fun g hg=>scanL_gen _ _ (fun s hs=>h.sec s (List.mem_of_mem_drop (List.mem_of_mem_take hs))) (fun g hg=>by cases hg) g hg⟩
def OpenW(w w':World)(m':DiskM)(n:Nat)(r:Ans×DiskD×Option (LogD×List Ent2))(pl ve:Value):Prop:=match r.2.2 with
 | none=>pl = .pointer none∧ve = .slice none 0 0
 | some (L,es)=>∃ gl,pl = .pointer (some ⟨gl,0,none⟩)∧LK w' m' r.2.1 gl (n/2) L∧w.heap.size≤gl∧w'.ownsRow w.heap.size 172 33 ve es.length (es.flatMap entP)∧(∀ q∈es,EntOk q)∧(∀ b,ve.ownBlock=some b→Apart m' b∧b≠gl)
theorem log_open(w:World)(m:DiskM)(d:DiskD)(hk:DK w m d)(hr:d.room+10≤100000):
  Calls Tryz.prog 149 #[.pointer (some ⟨m.g,0,none⟩)] w fun e w'=>∃ pl ve m',e = .returned (.tuple #[pl,ve,valE (openR d).1])∧DK w' m' (openR d).2.1∧DT w m w' m'∧OpenW w w' m' d.sec.length (openR d) pl ve:=by
 have HK:=Lib.hid hk
 have hlen:=hk.ok.few
 have HSZ:=Lib.hid (fun W M D (h:DK W M D)=>disk_size W M D h)
 have HSY:=Lib.hid (disk_sync w m d hk (by omega))
 rw[syncE_val] at HSY
 have hnn:=eq_nilL
 obtain⟨g9,hg9⟩:∃ g9,g9=m.g:=⟨_,rfl⟩
 have HG9:Hid (m.g=g9):=Lib.hid hg9.symm
 obtain⟨n,hn⟩:∃ n,n=d.sec.length:=⟨_,rfl⟩
 have HN:Hid (d.sec.length=n):=Lib.hid hn.symm
 have hn4:(n:Int)≤4096:=by omega
 have HZ1:=Lib.hid (HSZ.out w m d hk)
 have hst:=hk.ok.st
 rw[← hg9,← hn] at HZ1
 rw[← hg9] at HSY
 rw[← hg9,← hn]
 clear hk hg9
 rcases Nat.lt_or_ge n 2 with h2|h2
 ·have HV:Hid (openR d=(some (15,none),d,none)):=Lib.hid (by unfold openR;rw[if_pos (by omega)])
  have hi:(n:Int)<2:=by omega
  clear hn
  go_enter Tryz.func149,Tryz.ntmps149
  go_wp2_with fail
  refine HZ1.mono ?_
  rintro e wq ⟨rfl,hwq⟩
  rw[hwq]
  clear hwq wq
  go_wp2_with fail
  refine bodyPost_ret (results_tmp3 rfl _ _ _) rfl ?_
  exact⟨_,_,m,by rw[HV.out];rfl,by rw[HV.out];exact HK.out,DT.refl,by unfold OpenW;rw[HV.out];exact⟨rfl,rfl⟩⟩
 have hi:(2:Int)≤n:=by omega
 cases hsa:syncA d with
 | some x=>
  have HV:Hid (openR d=(some x,syncS d,none)):=Lib.hid (by unfold openR;rw[if_neg (by omega),hsa])
  obtain⟨t,u,hv⟩:=valE_form x
  rw[hsa,hv] at HSY
  have HVE:Hid (valE (some x) = .iface t u):=Lib.hid hv
  have hne:=neq_nil t u
  clear hn hsa hv
  go_enter Tryz.func149,Tryz.ntmps149
  go_wp2_with fail
  refine HZ1.mono ?_
  rintro e wq ⟨rfl,hwq⟩
  rw[hwq]
  clear hwq wq
  go_wp2_with fail
  refine HSY.mono ?_
  rintro e w1 ⟨rfl,m1,hk1,ht1⟩
  go_wp2_with fail
  refine bodyPost_ret (results_tmp3 rfl _ _ _) rfl ?_
  exact⟨_,_,m1,by rw[HV.out,HVE.out];rfl,by rw[HV.out];exact hk1,ht1,by unfold OpenW;rw[HV.out];exact⟨rfl,rfl⟩⟩
 | none=>
  obtain⟨d1,hd1⟩:∃ d1,d1=syncS d:=⟨_,rfl⟩
  have HV:Hid (openR d=openS d1):=Lib.hid (by unfold openR;rw[if_neg (by omega),hsa,hd1])
  have HD1:Hid (d1.down=false∧d1.opn=[]∧d1.sec.length=n∧d1.room≤d.room+1):=Lib.hid (by rw[hd1];exact⟨(syncS_ok hsa).1,(syncS_ok hsa).2,(syncS_len d).trans hn.symm,syncS_rm hst⟩)
  rw[← hd1,hsa] at HSY
  simp only[valE] at HSY
  clear hn hsa hd1
  go_enter Tryz.func149,Tryz.ntmps149
  go_wp2_with fail
  refine HZ1.mono ?_
  rintro e wq ⟨rfl,hwq⟩
  rw[hwq]
  clear hwq wq
  go_wp2_with fail
  refine HSY.mono ?_
  rintro e w1 ⟨rfl,m1,hk1,ht1⟩
  obtain rfl:m1.g=g9:=ht1.g.trans HG9.out
  have HK1:=Lib.hid hk1
  have HT1:=Lib.hid ht1
  obtain⟨w2,hw2⟩:∃ w2,w2=w1.alloc (.cells (logC m1.g 0 ⟨0,0,0,0,false⟩) 327):=⟨_,rfl⟩
  have HB2:Hid (Blk w2 w1.heap.size 327 (logC m1.g 0 ⟨0,0,0,0,false⟩)):=Lib.hid (by rw[hw2];exact Blk.new _ _ _)
  have HW2:Hid (Below w1.heap.size w1 w2):=Lib.hid (by rw[hw2];exact bel1 _ _)
  clear hk1 ht1 HSY HZ1
  go_upto_region 7 with fail
  obtain⟨gl,hgl⟩:∃ gl,gl=w1.heap.size:=⟨_,rfl⟩
  have HGL:Hid (w1.heap.size=gl):=Lib.hid hgl.symm
  have hw2':w2=w1.alloc (.cells #[.pointer (some ⟨m1.g,0,none⟩),.int .i64 0,.int .i64 0,.int .i64 0,.int .i64 0,.int .i64 0,.int .u32 0,.int .u32 0,.int .i64 0,.bool false] 327):=hw2
  rw[← hw2']
  rw[← hgl] at HB2 ⊢
  have hgs:=HB2.lt
  clear hw2 hw2' hgl
  obtain⟨wS,hwS⟩:∃ wS,wS=w2.drew:=⟨_,rfl⟩
  have HDW:Hid (Below w2.heap.size w2 wS):=Lib.hid (by rw[hwS];exact(Below.refl _ _).drew)
  have HKS:=Lib.hid ((HK1.keep HW2.out).keep HDW.out)
  have HB2S:=Lib.hid (HB2.keep HDW.out)
  refine kZ (n:=16) (fun _=>True) (trivial) (h:=fun hH=>?_)
  rw[← hwS]
  clear hwS
  refine kM 0 (some 25) (.pointer (some ⟨gl,0,none⟩)) (h:=?_)
  simp only[p1,p2,p3,p4,p5]
  refine kM 1 (some 26) (.pointer (some ⟨gl,0,none⟩)) (h:=?_)
  simp only[p1,p2,p3,p4,p5]
  refine kM 2 (some 27) (.pointer (some ⟨m1.g,0,none⟩)) (h:=?_)
  simp only[p1,p2,p3,p4,p5]
  refine kT 8 (some 32) (.pointer (some ⟨gl,0,none⟩)) (h:=?_)
  simp only[p1,p2,p3,p4,p5]
  refine kT 9 (some 33) (.pointer (some ⟨gl,1,none⟩)) (h:=?_)
  simp only[p1,p2,p3,p4,p5]
  refine kT 12 (some 35) (.pointer (some ⟨gl,0,none⟩)) (h:=?_)
  simp only[p1,p2,p3,p4,p5]
  refine kT 13 (some 36) (.pointer (some ⟨gl,1,none⟩)) (h:=?_)
  simp only[p1,p2,p3,p4,p5]
  refine kF 3 (some 28) ((HSZ.out wS m1 d1 HKS.out).mono ?_)
  rintro e w3 ⟨rfl,rfl⟩
  refine⟨_,rfl,trivial,fun hH=>?_⟩
  simp only[p1,p2,p3,p4,p5]
  rw[HD1.out.2.2.1]
  refine kF 4 (some 29) ((slot_halves n w3 (by omega)).mono ?_)
  rintro e w4 ⟨rfl,hb4⟩
  refine⟨_,rfl,trivial,fun hH=>?_⟩
  simp only[p1,p2,p3,p4,p5]
  refine kM 5 (some 24) (.tuple #[.agg #[.int .i64 0,.int .i64 ((n/2:Nat):Int)],.agg #[.int .i64 ((n/2:Nat):Int),.int .i64 ((n/2:Nat):Int)]]) (h:=?_)
  simp only[p1,p2,p3,p4,p5]
  refine kT 6 (some 30) (.agg #[.int .i64 0,.int .i64 ((n/2:Nat):Int)]) (h:=?_)
  simp only[p1,p2,p3,p4,p5]
  refine kT 7 (some 31) (.agg #[.int .i64 ((n/2:Nat):Int),.int .i64 ((n/2:Nat):Int)]) (h:=?_)
  simp only[p1,p2,p3,p4,p5]
  refine kT 10 (some 34) (.pointer (some ⟨gl,1,none⟩)) (h:=?_)
  simp only[p1,p2,p3,p4,p5]
  obtain⟨hf,hhf⟩:∃ hf:Nat,hf=n/2:=⟨_,rfl⟩
  rw[← hhf]
  have hB4:=(HB2S.keep hb4)
  have HST1:=setCells_partM (t:=327) [.pointer (some ⟨m1.g,0,none⟩)] [.int .i64 0,.int .i64 0] [.int .i64 0,.int .i64 0,.int .i64 0,.int .u32 0,.int .u32 0,.int .i64 0,.bool false] [.int .i64 0,.int .i64 hf] hB4 rfl
  have HST2:=setCells_partM (t:=327) [.pointer (some ⟨m1.g,0,none⟩),.int .i64 0,.int .i64 hf] [.int .i64 0,.int .i64 0] [.int .i64 0,.int .u32 0,.int .u32 0,.int .i64 0,.bool false] [.int .i64 hf,.int .i64 hf] HST1.1 rfl
  have hone:∀ a b:Int,∀ u∈[Value.int .i64 a,Value.int .i64 b],u.oneCell'=true:=fun a b u hu=>by simp only[List.mem_cons,List.not_mem_nil,or_false] at hu;rcases hu with rfl|rfl <;> rfl
  refine kR 11 none (n:=2) (cs:=[.int .i64 0,.int .i64 hf]) (there_blk hB4 (by show 1+2≤10;omega)) rfl (hone _ _) trivial (h:=?_)
  simp only[p1,p2,p3,p4,p5]
  refine kT 14 (some 37) (.pointer (some ⟨gl,3,none⟩)) (h:=?_)
  simp only[p1,p2,p3,p4,p5]
  refine kR 15 none (n:=2) (cs:=[.int .i64 hf,.int .i64 hf]) (there_blk HST1.1 (by show 3+2≤10;omega)) rfl (hone _ _) trivial (h:=?_)
  simp only[p1,p2,p3,p4,p5]
  refine kE (h:=?_)
  obtain⟨w5,hw5⟩:∃ w5,w5=(w4.setCells gl 1 [.int .i64 0,.int .i64 hf]).setCells gl 3 [.int .i64 hf,.int .i64 hf]:=⟨_,rfl⟩
  rw[← hw5]
  have HB5:Hid (Blk w5 gl 327 (logC m1.g hf ⟨0,0,0,0,false⟩)):=Lib.hid (by rw[hw5];exact HST2.1)
  have HO5:Hid (Off gl w4 w5):=Lib.hid (by rw[hw5];exact HST1.2.1.trans HST2.2.1)
  have HHF:Hid (n/2=hf):=Lib.hid hhf.symm
  have HLW:Hid (Below w1.heap.size w1 w5):=Lib.hid ((bstep (bstep HW2.out HDW.out) hb4).trans (HO5.below (by rw[HGL.out];exact Nat.le_refl _) (by have h1:=HW2.size;have h2:=HDW.size;have h3:=hb4.size;omega)))
  have HK5:=Lib.hid (HK1.keep HLW.out)
  have HAP:Hid (Apart m1 gl):=Lib.hid (Apart.fresh HK1.out (by rw[HGL.out];exact Nat.le_refl _))
  have hlen1:=HD1.out.2.2.1
  have HL5:=Lib.hid (last_generation w5 m1 d1 HK5.out HD1.out.1)
  rw[hlen1] at HL5
  obtain⟨la,hla⟩:∃ la,la=lastN d1 n:=⟨_,rfl⟩
  have HLT:Hid (la<4294967296):=Lib.hid (by rw[hla];exact lastN_lt HK1.ok n)
  rw[← hla] at HL5
  have hla4:(la:Int)≤4294967295:=by have:=HLT.out;omega
  have HOF:Hid (openF d1=fAt d1 hf ⟨0,la,0,0,false⟩ 2):=Lib.hid (by unfold openF;rw[hlen1,HHF.out,← hla])
  have HLA:Hid (lastN d1 d1.sec.length=la):=Lib.hid (by rw[hlen1];exact hla.symm)
  have HHL:Hid (hf+hf≤d1.sec.length∧hf=d1.sec.length/2):=Lib.hid (by rw[hlen1];omega)
  have HHN:Hid (hf=d.sec.length/2):=Lib.hid (by rw[HN.out];omega)
  clear hla hlen1 hhf HST1 HST2 hone hb4 hB4 hw5 HO5 hgs
  go_wp2_with fail
  refine HL5.mono ?_
  rintro e w6 ⟨rfl,hb6⟩
  have HB6:=Lib.hid (HB5.keep hb6)
  have HL6:Hid (Below w1.heap.size w1 w6):=Lib.hid (bstep HLW.out hb6)
  have c6:w6.cell? ⟨gl,6,none⟩=some (.int .u32 0):=(HB6.cell 6).trans rfl
  have f6:=HB6.frozen 6
  have hgs6:=HB6.lt
  clear hb6
  go_wp2_with fail
  obtain⟨w7,hw7⟩:∃ w7,w7=w6.setCell ⟨gl,6,none⟩ (.int .u32 la):=⟨_,rfl⟩
  have HB7:Hid (Blk w7 gl 327 (logC m1.g hf ⟨0,la,0,0,false⟩)):=Lib.hid (by rw[hw7];exact HB6.set_ 6 _)
  have HL7:Hid (Below w1.heap.size w1 w7):=Lib.hid (by rw[hw7];exact HL6.setCell (p:=⟨gl,6,none⟩) (by rw[HGL.out];exact Nat.le_refl _) _)
  rw[← hw7]
  clear hw7 c6 f6 hgs6
  refine(log_find w7 m1 d1 gl hf ⟨0,la,0,0,false⟩ (HK1.keep HL7.out) HB7.out HAP.out HD1.out.1 HD1.out.2.1 HHL.out.1).mono ?_
  rintro e w8 ⟨v,rfl,hfr⟩
  have hinv:=fAt_inv d1 hf ⟨0,la,0,0,false⟩ ⟨by show 0<2;omega,HLT.out,by show 0<_;omega,by show 0≤_;omega⟩ (fun f=>slot_inv HK1.ok f hf) 2 (Nat.le_refl _)
  rw[← HOF.out] at hfr hinv ⊢
  obtain⟨p,hp⟩:∃ p,p=openF d1:=⟨_,rfl⟩
  have HP:Hid (openF d1=p):=Lib.hid hp.symm
  rw[← hp] at hfr hinv ⊢
  have HL8:Hid (Below w1.heap.size w1 w8):=Lib.hid (HL7.trans (hfr.fo.below (fun k hk=>by rw[List.mem_singleton] at hk;rw[hk,HGL.out];exact Nat.le_refl _) HL7.size))
  have HLK:Hid (LK w8 m1 d1 gl hf p.2):=Lib.hid ⟨hfr.dk,hfr.blk,HAP.out,⟨hinv.2.1,by rw[hinv.2.2.1];exact HLT.out,hinv.2.2.2.1,hinv.2.2.2.2,HHL.out.2⟩⟩
  have HOW:Hid (w8.ownsRow w.heap.size 172 33 v (p.1.getD []).length ((p.1.getD []).flatMap entP)):=Lib.hid (own_base hfr.own (by have h1:=HT1.fo.size;have h2:=HL7.size;omega))
  have HOA:Hid (∀ b,v.ownBlock=some b→Apart m1 b∧b≠gl):=Lib.hid (fun b e=>⟨Apart.fresh (HK1.keep HL7.out) (hfr.own.lt b e).1,fun e2=>by have h1:=HB7.lt;have h2:=(hfr.own.lt b e).1;omega⟩)
  have HEO:=Lib.hid hfr.ok
  have HGW:Hid (w.heap.size≤gl):=Lib.hid (by have h1:=HT1.fo.size;have h2:=HGL.out;omega)
  have HIN:=Lib.hid hinv.1
  have HTB:Hid (DT w m w8 m1):=Lib.hid (HT1.trans (DT.of_below HL8.out))
  clear hp hfr hinv
  cases hp1:p.1 with
  | some es=>
   have HSV:Hid (openS d1=(none,d1,some (p.2,es))):=Lib.hid (by unfold openS;rw[HP.out,hp1])
   rw[hp1] at HOW HEO
   clear hp1
   simp only[Option.isSome_some]
   go_wp2_with fail
   refine bodyPost_ret (results_tmp3 rfl _ _ _) rfl ?_
   refine⟨_,_,m1,by rw[HV.out,HSV.out];rfl,by rw[HV.out,HSV.out];exact HLK.dk,HTB.out,?_⟩
   unfold OpenW
   rw[HV.out,HSV.out]
   exact⟨gl,rfl,by rw[HHF.out];exact HLK.out,HGW.out,HOW.out,HEO.out,HOA.out⟩
  | none=>
   simp only[Option.isSome_none]
   rcases Nat.lt_or_ge la 4294967295 with hmx|hmx
   ·have HP0:Hid (p.2=⟨0,la,0,0,false⟩):=Lib.hid (HIN.out hp1)
    have hne:la≠4294967295:=by omega
    obtain⟨gn,hgn⟩:∃ gn,gn=la+1:=⟨_,rfl⟩
    have HSV:Hid (openS d1=match wsA d1 0 (rec gn toll) with
      | some x=>(some x,wsD d1 0 (rec gn toll),none)
      | none=>(none,wsD d1 0 (rec gn toll),some (⟨0,la,gn,0,false⟩,[]))):=Lib.hid (by unfold openS;rw[HP.out,hp1];simp only[HLA.out,if_neg hne,hgn])
    have HB8:Hid (Blk w8 gl 327 (logC m1.g hf ⟨0,la,0,0,false⟩)):=Lib.hid (by have h:=HLK.blk;rw[HP0.out] at h;exact h)
    have c5:w8.cell? ⟨gl,5,none⟩=some (.int .i64 0):=(HB8.cell 5).trans rfl
    have c7:w8.cell? ⟨gl,7,none⟩=some (.int .u32 0):=(HB8.cell 7).trans rfl
    have f5:=HB8.frozen 5
    have f7:=HB8.frozen 7
    have hgs8:=HB8.lt
    have HLA5:Hid ((la:Int)<4294967295):=Lib.hid (by omega)
    have t9:((la:Int) == 4294967295)=false:=by rw[beq_eq_false_iff_ne];omega
    have HGI:Hid ((la:Int)+1=gn):=Lib.hid (by omega)
    have HGN:Hid (gn<4294967296):=Lib.hid (by omega)
    clear hp1 hgn hne hmx hla4
    go_upto_region 19 with fail
    have hla5:=HLA5.out
    go_upto_region 21 with fail
    rw[HGI.out]
    obtain⟨w9,hw9⟩:∃ w9,w9=(w8.setCell ⟨gl,5,none⟩ (.int .i64 0)).setCell ⟨gl,7,none⟩ (.int .u32 (gn:Int)):=⟨_,rfl⟩
    have HB9:Hid (Blk w9 gl 327 (logC m1.g hf ⟨0,la,gn,0,false⟩)):=Lib.hid (by rw[hw9];exact(HB8.set_ 5 _).set_ 7 _)
    have hk9:∀ j,j≠gl→w9.heap[j]? = w8.heap[j]?:=fun j hj=>by rw[hw9,Below.heap_setCell _ ⟨gl,7,none⟩ _ j hj,Below.heap_setCell _ ⟨gl,5,none⟩ _ j hj]
    have HK9:Hid (DK w9 m1 d1):=Lib.hid (HLK.dk.offK hk9 (by rw[hw9];simp) HAP.out)
    have HT9:Hid (DT w m w9 m1):=Lib.hid (HT1.trans (DT.of_below (by rw[hw9];exact(HL8.setCell (p:=⟨gl,5,none⟩) (by rw[HGL.out];exact Nat.le_refl _) _).setCell (p:=⟨gl,7,none⟩) (by rw[HGL.out];exact Nat.le_refl _) _)))
    rw[← hw9]
    clear hw9 hk9 c5 c7 f5 f7 t9
    obtain⟨wS,hwS⟩:∃ wS,wS=w9.drew:=⟨_,rfl⟩
    have HDS:Hid (Below w9.heap.size w9 wS):=Lib.hid (by rw[hwS];exact(Below.refl _ _).drew)
    have HKS:=Lib.hid (HK9.keep HDS.out)
    have HSL:Hid (∀ W,Blk W gl 327 (logC m1.g hf ⟨0,la,gn,0,false⟩)→W.rangeAt gl 1 [.int .i64 0,.int .i64 hf]):=Lib.hid (fun W hk=>blk_slot hk 0 (by omega))
    refine kZ (n:=12) (fun W=>Blk W gl 327 (logC m1.g hf ⟨0,la,gn,0,false⟩)) (by rw[← hwS];exact HB9.keep HDS.out) (h:=fun hH=>?_)
    rw[← hwS] at hH ⊢
    clear hwS
    refine kM 0 (some 73) (.pointer (some ⟨m1.g,0,none⟩)) (h:=?_)
    simp only[p1,p2,p3,p4,p5]
    refine kM 1 (some 74) (.pointer (some ⟨gl,0,none⟩)) (h:=?_)
    simp only[p1,p2,p3,p4,p5]
    refine kT 2 (some 75) (.pointer (some ⟨gl,0,none⟩)) (h:=?_)
    simp only[p1,p2,p3,p4,p5]
    refine kT 3 (some 76) (.pointer (some ⟨gl,1,none⟩)) (h:=?_)
    simp only[p1,p2,p3,p4,p5]
    refine kT 4 (some 77) (.pointer (some ⟨gl,1,none⟩)) (h:=?_)
    simp only[p1,p2,p3,p4,p5]
    refine kL 5 (some 78) (cs:=[.int .i64 0,.int .i64 hf]) (fun _ hX=>HSL.out _ hX) (rfl) (h:=?_)
    simp only[p1,p2,p3,p4,p5]
    refine kM 6 (some 79) (.pointer (some ⟨gl,0,none⟩)) (h:=?_)
    simp only[p1,p2,p3,p4,p5]
    refine kT 7 (some 80) (.pointer (some ⟨gl,0,none⟩)) (h:=?_)
    simp only[p1,p2,p3,p4,p5]
    refine kT 8 (some 81) (.pointer (some ⟨gl,7,none⟩)) (h:=?_)
    simp only[p1,p2,p3,p4,p5]
    refine kC 9 (some 82) (v:=.int .u32 gn) (fun _ hX=>(hX.cell 7).trans rfl) (h:=?_)
    simp only[p1,p2,p3,p4,p5]
    refine kF 10 (some 83) ((slot_commit 0 hf gn wS m1 d1 HKS.out (by exact⟨by decide,by decide⟩) HGN.out (by have:=HD1.out.2.2.2;omega)).mono ?_)
    rintro e w10 ⟨rfl,m2,hk10,ht10⟩
    have hB10:Blk w10 gl 327 (logC m1.g hf ⟨0,la,gn,0,false⟩):=(ht10.off hH.lt HAP.out.1).trans hH
    refine⟨_,rfl,hB10,fun hH10=>?_⟩
    simp only[p1,p2,p3,p4,p5]
    refine kT 11 (some 11) (valE (wsA d1 0 (rec gn toll))) (h:=?_)
    simp only[p1,p2,p3,p4,p5]
    refine kE (h:=?_)
    have HKX:=Lib.hid hk10
    have HTX:=Lib.hid ((HT9.trans (DT.of_below HDS.out)).trans ht10)
    have HAX:=Lib.hid (HAP.next hH.lt ht10)
    have HBX:Hid (Blk w10 gl 327 (logC m2.g hf ⟨0,la,gn,0,false⟩)):=Lib.hid (by rw[ht10.g];exact hB10)
    clear hk10 ht10 hB10 hH10 hH
    cases hpa:wsA d1 0 (rec gn toll) with
    | some x=>
     have HSW:Hid (openS d1=(some x,wsD d1 0 (rec gn toll),none)):=Lib.hid (by rw[HSV.out,hpa])
     obtain⟨t,u,hv⟩:=valE_form x
     have HVE:=Lib.hid hv
     have hne:=neq_nil t u
     rw[hv]
     clear hpa hv
     go_wp2_with fail
     refine bodyPost_ret (results_tmp3 rfl _ _ _) rfl ?_
     refine⟨_,_,m2,by rw[HV.out,HSW.out,HVE.out];rfl,by rw[HV.out,HSW.out];exact HKX.out,HTX.out,?_⟩
     unfold OpenW
     rw[HV.out,HSW.out]
     exact⟨rfl,rfl⟩
    | none=>
     have HSW:Hid (openS d1=(none,wsD d1 0 (rec gn toll),some (⟨0,la,gn,0,false⟩,[]))):=Lib.hid (by rw[HSV.out,hpa])
     have hv:valE none = .nilIface:=rfl
     rw[hv]
     clear hpa hv
     go_wp2_with fail
     refine bodyPost_ret (results_tmp3 rfl _ _ _) rfl ?_
     refine⟨_,_,m2,by rw[HV.out,HSW.out];rfl,by rw[HV.out,HSW.out];exact HKX.out,HTX.out,?_⟩
     unfold OpenW
     rw[HV.out,HSW.out]
     exact⟨gl,rfl,by rw[HHF.out];exact⟨HKX.out,HBX.out,HAX.out,⟨by show 0<2;omega,HLT.out,HGN.out,by show 0≤10000;omega,by rw[wsD_len];exact HHL.out.2⟩⟩,HGW.out,World.ownsRow_nil _ _ _ _,(fun q hq=>by cases hq),fun b e=>by cases e⟩
   ·obtain rfl:la=4294967295:=by have:=HLT.out;omega
    have HSV:Hid (openS d1=(some (13,none),d1,none)):=Lib.hid (by unfold openS;rw[HP.out,hp1];simp only[HLA.out];rfl)
    clear hp1
    go_wp2_with fail
    refine bodyPost_ret (results_tmp3 rfl _ _ _) rfl ?_
    refine⟨_,_,m1,by rw[HV.out,HSV.out];rfl,by rw[HV.out,HSV.out];exact HLK.dk,HTB.out,?_⟩
    unfold OpenW
    rw[HV.out,HSV.out]
    exact⟨rfl,rfl⟩
def Bd(c:Nat)(d d':DiskD):Prop:=d'.steps≤d'.room∧d'.room≤d.room+c∧d'.sec.length=d.sec.length
theorem Bd.mono{c c':Nat}{d d':DiskD}(h:Bd c d d')(hc:c≤c'):Bd c' d d':=⟨h.1,by have:=h.2.1;omega,h.2.2⟩
theorem Bd.trans{a b:Nat}{d d' d'':DiskD}(h:Bd a d d')(k:Bd b d' d''):Bd (a+b) d d'':=⟨k.1,by have:=h.2.1;have:=k.2.1;omega,k.2.2.trans h.2.2⟩
theorem stepped_bd{d:DiskD}(h:d.steps≤d.room):Bd 1 d (stepped d):=⟨by show d.steps+1≤max d.room (d.steps+1);omega,by show max d.room (d.steps+1)≤d.room+1;omega,rfl⟩
theorem addIf_bd{d:DiskD}(h:d.steps≤d.room)(a:Int)(s:List Int):Bd 1 d (addIf d a s):=by
 unfold addIf
 split
 ·exact⟨by show d.steps≤d.room+1;omega,Nat.le_refl _,rfl⟩
 ·exact⟨h,by omega,rfl⟩
theorem crashD_bd{d:DiskD}(h:d.steps≤d.room)(cl:List Int):Bd 0 d (crashD d cl):=⟨h,Nat.le_refl _,crashL_len _ _ _⟩
theorem writeD_bd{d:DiskD}(h:d.steps≤d.room)(a:Int)(s:List Int):Bd 2 d (writeD d a s):=by
 have h1:=stepped_bd h
 have h2:=h1.trans (addIf_bd h1.1 a s)
 unfold writeD
 split
 ·exact⟨h,by omega,rfl⟩
 ·split
  ·exact h2.trans (crashD_bd h2.1 _)
  ·split
   ·exact h1.mono (by omega)
   ·exact h2
theorem syncS_bd{d:DiskD}(h:d.steps≤d.room):Bd 1 d (syncS d):=by
 have h1:=stepped_bd h
 unfold syncS
 split
 ·exact⟨h,by omega,rfl⟩
 ·split
  ·exact h1.trans (crashD_bd h1.1 _)
  ·split
   ·exact h1
   ·exact⟨h1.1,h1.2.1,syncN_len _ _ _⟩
theorem wsD_bd{d:DiskD}(h:d.steps≤d.room)(a:Int)(s:List Int):Bd 3 d (wsD d a s):=by
 have h1:=writeD_bd h a s
 unfold wsD
 split
 ·exact h1.mono (by omega)
 ·exact h1.trans (syncS_bd h1.1)
theorem fillW_bd:∀(L:List (List Int)) (d:DiskD) (a:Int),d.steps≤d.room→Bd (2*L.length+1) d (fillW d a L).2
 | [],d,a,h=>(syncS_bd h).mono (by simp)
 | s :: L,d,a,h=>by
  have h1:=writeD_bd h a s
  unfold fillW
  split
  ·exact h1.mono (by simp;omega)
  ·exact(h1.trans (fillW_bd L _ _ h1.1)).mono (by simp;omega)
theorem fillR_bd{d:DiskD}(h:d.steps≤d.room)(f z:Int)(g:Nat)(l:List Ent2):Bd (2*l.length+1) d (fillR d f z g l).2:=by
 unfold fillR
 split
 ·exact⟨h,by simp,rfl⟩
 ·split
  ·exact(fillW_bd _ _ _ h).mono (by simp)
  ·exact⟨h,by simp,rfl⟩
def rewW(fa:Ans)(fd:DiskD)(L:LogD)(wa:Ans)(wd:DiskD)(so g n:Nat):Ans×DiskD×LogD:=match fa with
 | some x=>(some x,fd,noteL L x.1)
 | none=>match wa with
  | some x=>(some x,wd,noteL L x.1)
  | none=>(none,wd,{ L with side:=so,gen:=g,cnt:=n })
def rewS(d:DiskD)(h:Nat)(L:LogD)(qs:List Ent2)(g:Nat):Ans×DiskD×LogD:=
 rewW (fillR d (sFrom h (1-L.side)) h g qs).1 (fillR d (sFrom h (1-L.side)) h g qs).2 L (wsA (fillR d (sFrom h (1-L.side)) h g qs).2 (sFrom h (1-L.side)) (rec g toll)) (wsD (fillR d (sFrom h (1-L.side)) h g qs).2 (sFrom h (1-L.side)) (rec g toll)) (1-L.side) g qs.length
def rewR(d:DiskD)(h:Nat)(L:LogD)(qs:List Ent2):Ans×DiskD×LogD:=if L.brk then (some (11,none),d,L) else if max L.last L.gen=4294967295 then (some (13,none),d,L) else rewS d h L qs (max L.last L.gen+1)
theorem log_rewrite(qs:List Ent2)(A:Option Addr)(cap:Nat)(w:World)(m:DiskM)(d:DiskD)(gl h:Nat)(L:LogD)(k:LK w m d gl h L)(hs:Sn w 33 (.slice A qs.length cap) qs.length (qs.flatMap entP))(hok:∀ q∈qs,EntOk q)(hln:qs.length≤10000)(hr:d.room+30000≤100000):
  Calls Tryz.prog 175 #[.pointer (some ⟨gl,0,none⟩),.slice A qs.length cap] w fun e w'=>e = .returned (valE (rewR d h L qs).1)∧∃ m',LK w' m' (rewR d h L qs).2.1 gl h (rewR d h L qs).2.2∧LT gl w m w' m':=by
 have hh:=LogOk.h_le k
 have HK:=Lib.hid k
 have HS:=Lib.hid hs
 have HOK:=Lib.hid hok
 have HB:Hid (Blk w gl 327 (logC m.g h L)):=Lib.hid k.blk
 obtain⟨c0,c5,c6,c7,c8,c9⟩:=k.cells
 have hgl:=k.blk.lt
 clear hs hok
 cases hb:L.brk with
 | true=>
  have HV:Hid (rewR d h L qs=(some (11,none),d,L)):=Lib.hid (by unfold rewR;rw[if_pos hb])
  rw[hb] at c9
  clear hb k
  go_enter Tryz.func175,Tryz.ntmps175
  go_wp2_with fail
  go_ret
  exact⟨by rw[HV.out];rfl,m,by rw[HV.out];exact HK.out,LT.of_below (Below.refl _ _)⟩
 | false=>
  rw[hb] at c9
  obtain⟨gm,hgm⟩:∃ gm,gm=max L.last L.gen:=⟨_,rfl⟩
  have hgi:max (L.last:Int) L.gen=gm:=by omega
  have HGI:=Lib.hid hgi
  have HM4:Hid (gm<4294967296):=Lib.hid (by have h1:=k.ok.last;have h2:=k.ok.gen;omega)
  have HR1:Hid (rewR d h L qs=if gm=4294967295 then (some (13,none),d,L) else rewS d h L qs (gm+1)):=Lib.hid (by unfold rewR;rw[hb,hgm];rfl)
  have hsd:=k.ok.side
  have HC:Hid (∀ W,Blk W gl 327 (logC m.g h L)→W.cell? ⟨gl,6,none⟩=some (.int .u32 L.last)∧W.cell? ⟨gl,7,none⟩=some (.int .u32 L.gen)):=Lib.hid (fun W hk=>⟨(hk.cell 6).trans rfl,(hk.cell 7).trans rfl⟩)
  clear hb hgm k hgi
  go_enter Tryz.func175,Tryz.ntmps175
  go_upto_region 5 with fail
  obtain⟨wS,hwS⟩:∃ wS,wS=w.drew:=⟨_,rfl⟩
  have HDS:Hid (Below w.heap.size w wS):=Lib.hid (by rw[hwS];exact(Below.refl _ _).drew)
  refine kZ (n:=10) (fun W=>Blk W gl 327 (logC m.g h L)) (by rw[← hwS];exact HB.keep HDS.out) (h:=fun hH=>?_)
  rw[← hwS] at hH ⊢
  clear hwS
  refine kM 0 (some 17) (.pointer (some ⟨gl,0,none⟩)) (h:=?_)
  simp only[p1,p2,p3,p4,p5]
  refine kT 1 (some 18) (.pointer (some ⟨gl,0,none⟩)) (h:=?_)
  simp only[p1,p2,p3,p4,p5]
  refine kT 2 (some 19) (.pointer (some ⟨gl,6,none⟩)) (h:=?_)
  simp only[p1,p2,p3,p4,p5]
  refine kC 3 (some 20) (v:=.int .u32 L.last) (fun _ hX=>(HC.out _ hX).1) (h:=?_)
  simp only[p1,p2,p3,p4,p5]
  refine kM 4 (some 21) (.pointer (some ⟨gl,0,none⟩)) (h:=?_)
  simp only[p1,p2,p3,p4,p5]
  refine kT 5 (some 22) (.pointer (some ⟨gl,0,none⟩)) (h:=?_)
  simp only[p1,p2,p3,p4,p5]
  refine kT 6 (some 23) (.pointer (some ⟨gl,7,none⟩)) (h:=?_)
  simp only[p1,p2,p3,p4,p5]
  refine kC 7 (some 24) (v:=.int .u32 L.gen) (fun _ hX=>(HC.out _ hX).2) (h:=?_)
  simp only[p1,p2,p3,p4,p5]
  refine kT 8 (some 25) (.int .u32 gm) (hy:=fun W hW=>by unfold execOp;rw[← HGI.out];go_simp) (h:=?_)
  simp only[p1,p2,p3,p4,p5]
  refine kT 9 (some 5) (.int .u32 gm) (h:=?_)
  simp only[p1,p2,p3,p4,p5]
  refine kE (h:=?_)
  obtain⟨so,hso⟩:∃ so,so=1-L.side:=⟨_,rfl⟩
  have hsi:(1:Int)-L.side=so:=by omega
  have HSI:=Lib.hid hsi
  have hso2:so<2:=by omega
  have hsdi:(L.side:Int)<2:=by omega
  have hsdi0:(0:Int)≤L.side:=by omega
  have HWS:Hid (Below w.heap.size w wS):=HDS
  have HKS:Hid (LK wS m d gl h L):=Lib.hid (HK.keep HDS.out)
  have HST0:=Lib.hid (HS.below HDS.out)
  have d5:wS.cell? ⟨gl,5,none⟩=some (.int .i64 L.side):=(hH.cell 5).trans rfl
  have HBS:Hid (Blk wS gl 327 (logC m.g h L)):=Lib.hid hH
  have hgS:gl<wS.heap.size:=hH.lt
  clear c0 c5 c6 c7 c8 c9 hsi hH
  rcases Nat.lt_or_ge gm 4294967295 with hmx|hmx
  ·have t9:((gm:Int) == 4294967295)=false:=by rw[beq_eq_false_iff_ne];omega
   obtain⟨gn,hgn⟩:∃ gn,gn=gm+1:=⟨_,rfl⟩
   have HGN:Hid ((gm:Int)+1=gn):=Lib.hid (by omega)
   have HG4:Hid (gn<4294967296):=Lib.hid (by omega)
   have HM5:Hid ((gm:Int)<4294967295):=Lib.hid (by omega)
   have HV:Hid (rewR d h L qs=rewS d h L qs gn):=Lib.hid (by rw[HR1.out,if_neg (by omega),hgn])
   clear hmx hgn
   go_upto_region 8 with fail
   have hgm5:=HM5.out
   go_upto_region 10 with fail
   rw[HGN.out,HSI.out]
   obtain⟨sf,hsf⟩:∃ sf,sf=sFrom h so:=⟨_,rfl⟩
   have HSF:Hid ((sf:Int)≤100000∧0≤(sf:Int)):=Lib.hid (by rw[hsf];exact⟨(ofs_lt hh).2,(ofs_lt (h:=h) (s:=so) hh).1⟩)
   have HSL:Hid (∀ W,Blk W gl 327 (logC m.g h L)→W.rangeAt gl (1+so*2) [.int .i64 sf,.int .i64 h]):=Lib.hid (fun W hk=>by rw[hsf];exact blk_slot hk so hso2)
   have hso0:(0:Int)≤so:=by omega
   have hso1:(so:Int)<2:=by omega
   obtain⟨fa,hfa⟩:∃ fa,fa=(fillR d sf h gn qs).1:=⟨_,rfl⟩
   obtain⟨fd,hfd⟩:∃ fd,fd=(fillR d sf h gn qs).2:=⟨_,rfl⟩
   have HW2:Hid (rewR d h L qs=rewW fa fd L (wsA fd sf (rec gn toll)) (wsD fd sf (rec gn toll)) so gn qs.length):=Lib.hid (by rw[HV.out,hfa,hfd,hsf,hso];rfl)
   have HFD:Hid (Bd (2*qs.length+1) d fd):=Lib.hid (by rw[hfd];exact fillR_bd HK.dk.ok.st _ _ _ _)
   have HH2:Hid (h≤2048):=Lib.hid (by have h1:=HK.ok.half;have h2:=HK.dk.ok.few;omega)
   have HAP:=Lib.hid HK.ap
   have HFC:=Lib.hid (fun W (hk:DK W m d) (hs:Sn W 33 (.slice A qs.length cap) qs.length (qs.flatMap entP))=>slot_fill sf h gn qs A cap W m d hk hs HOK.out ⟨HSF.out.2,HSF.out.1⟩ ⟨⟨by omega,by omega⟩,by have:=HH2.out;omega⟩ HG4.out (by omega) (by omega))
   rw[← hfa,← hfd] at HFC
   clear hfa hfd hsf hso hgm5 d5 t9
   obtain⟨wT,hwT⟩:∃ wT,wT=wS.drew:=⟨_,rfl⟩
   have HDT:Hid (Below wS.heap.size wS wT):=Lib.hid (by rw[hwT];exact(Below.refl _ _).drew)
   have HKT:=Lib.hid (HKS.keep HDT.out)
   have HBT:Hid (Blk wT gl 327 (logC m.g h L)):=Lib.hid HKT.blk
   have HST:=Lib.hid (HST0.below HDT.out)
   refine kZ (n:=14) (fun W=>Blk W gl 327 (logC m.g h L)) (by rw[← hwT];exact HBT.out) (h:=fun hH=>?_)
   rw[← hwT] at hH ⊢
   clear hwT
   refine kM 0 (some 36) (.pointer (some ⟨gl,0,none⟩)) (h:=?_)
   simp only[p1,p2,p3,p4,p5]
   refine kT 1 (some 37) (.pointer (some ⟨gl,0,none⟩)) (h:=?_)
   simp only[p1,p2,p3,p4,p5]
   refine kT 2 (some 38) (.pointer (some ⟨gl,0,none⟩)) (h:=?_)
   simp only[p1,p2,p3,p4,p5]
   refine kC 3 (some 39) (v:=.pointer (some ⟨m.g,0,none⟩)) (fun _ hX=>(hX.cell 0).trans rfl) (h:=?_)
   simp only[p1,p2,p3,p4,p5]
   refine kM 4 (some 40) (.pointer (some ⟨gl,0,none⟩)) (h:=?_)
   simp only[p1,p2,p3,p4,p5]
   refine kM 5 (some 41) (.int .i64 so) (h:=?_)
   simp only[p1,p2,p3,p4,p5]
   refine kT 6 (some 42) (.pointer (some ⟨gl,0,none⟩)) (h:=?_)
   simp only[p1,p2,p3,p4,p5]
   refine kT 7 (some 43) (.pointer (some ⟨gl,1,none⟩)) (h:=?_)
   simp only[p1,p2,p3,p4,p5]
   refine kT 8 (some 44) (.pointer (some ⟨gl,1+so*2,none⟩)) (h:=?_)
   simp only[p1,p2,p3,p4,p5]
   refine kL 9 (some 45) (cs:=[.int .i64 sf,.int .i64 h]) (fun _ hX=>HSL.out _ hX) (rfl) (h:=?_)
   simp only[p1,p2,p3,p4,p5]
   refine kM 10 (some 46) (.int .u32 gn) (h:=?_)
   simp only[p1,p2,p3,p4,p5]
   refine kM 11 (some 47) (.slice A qs.length cap) (h:=?_)
   simp only[p1,p2,p3,p4,p5]
   refine kF 12 (some 48) ((HFC.out wT HKT.dk HST.out).mono ?_)
   rintro e w5 ⟨rfl,m5,hk5,ht5⟩
   refine⟨_,rfl,(ht5.off hH.lt HAP.out.1).trans hH,fun hH5=>?_⟩
   simp only[p1,p2,p3,p4,p5]
   refine kT 13 (some 7) (valE fa) (h:=?_)
   simp only[p1,p2,p3,p4,p5]
   refine kE (h:=?_)
   have HKX:Hid (LK w5 m5 fd gl h L):=Lib.hid (HKT.disk hk5 ht5 HFD.out.2.2)
   have HTX:Hid (LT gl w m w5 m5):=Lib.hid ((LT.of_below (bstep HWS.out HDT.out)).trans (LT.of_dt ht5))
   have HMG:Hid (m5.g=m.g):=Lib.hid ht5.g
   clear hk5 ht5 hH hH5
   cases fa with
   | some x=>
    obtain⟨t,u,hv⟩:=valE_form x
    have HN:=Lib.hid (log_note (some x) w5 m5 fd gl h L HKX.out)
    have HVE:=Lib.hid hv
    rw[hv] at HN ⊢
    have hne:=neq_nil t u
    clear hv
    go_wp2_with fail
    refine HN.mono ?_
    rintro e w6 ⟨rfl,hk6,ht6⟩
    have HK6:=Lib.hid hk6
    have HT6:=Lib.hid (HTX.trans ht6)
    clear hk6 ht6
    go_wp2_with fail
    go_ret
    exact⟨by rw[HW2.out];show _=Ending.returned (valE (some x));rw[HVE.out];rfl,m5,by rw[HW2.out];exact HK6.out,HT6.out⟩
   | none=>
    have hv:valE none = .nilIface:=rfl
    have hnn:=eq_nilL
    rw[hv]
    clear hv
    have hg5:gl<w5.heap.size:=HKX.blk.lt
    go_upto_region 13 with fail
    obtain⟨wa,hwa⟩:∃ wa,wa=wsA fd sf (rec gn toll):=⟨_,rfl⟩
    obtain⟨wd,hwd⟩:∃ wd,wd=wsD fd sf (rec gn toll):=⟨_,rfl⟩
    have HW3:Hid (rewR d h L qs=rewW none fd L wa wd so gn qs.length):=Lib.hid (by rw[HW2.out,hwa,hwd])
    have HWL:Hid (wd.sec.length=fd.sec.length):=Lib.hid (by rw[hwd];exact wsD_len _ _ _)
    have HCC:=Lib.hid (fun W (hk:DK W m5 fd)=>slot_commit sf h gn W m5 fd hk ⟨by have:=HSF.out.2;omega,by have:=HSF.out.1;omega⟩ HG4.out (by have:=HFD.out.2.1;omega))
    rw[← hwa,← hwd] at HCC
    have HBX:Hid (Blk w5 gl 327 (logC m5.g h L)):=Lib.hid HKX.blk
    have HSM:Hid (∀ W,Blk W gl 327 (logC m5.g h L)→W.rangeAt gl (1+so*2) [.int .i64 sf,.int .i64 h]):=Lib.hid (fun W hk=>HSL.out W (by rw[← HMG.out];exact hk))
    have HAX:=Lib.hid HKX.ap
    clear hwa hwd
    obtain⟨wU,hwU⟩:∃ wU,wU=w5.drew:=⟨_,rfl⟩
    have HDU:Hid (Below w5.heap.size w5 wU):=Lib.hid (by rw[hwU];exact(Below.refl _ _).drew)
    have HKU:=Lib.hid (HKX.keep HDU.out)
    have HBU:Hid (Blk wU gl 327 (logC m5.g h L)):=Lib.hid HKU.blk
    refine kZ (n:=13) (fun W=>Blk W gl 327 (logC m5.g h L)) (by rw[← hwU];exact HBU.out) (h:=fun hH=>?_)
    rw[← hwU] at hH ⊢
    clear hwU
    refine kM 0 (some 54) (.pointer (some ⟨gl,0,none⟩)) (h:=?_)
    simp only[p1,p2,p3,p4,p5]
    refine kT 1 (some 55) (.pointer (some ⟨gl,0,none⟩)) (h:=?_)
    simp only[p1,p2,p3,p4,p5]
    refine kT 2 (some 56) (.pointer (some ⟨gl,0,none⟩)) (h:=?_)
    simp only[p1,p2,p3,p4,p5]
    refine kC 3 (some 57) (v:=.pointer (some ⟨m5.g,0,none⟩)) (fun _ hX=>(hX.cell 0).trans rfl) (h:=?_)
    simp only[p1,p2,p3,p4,p5]
    refine kM 4 (some 58) (.pointer (some ⟨gl,0,none⟩)) (h:=?_)
    simp only[p1,p2,p3,p4,p5]
    refine kM 5 (some 59) (.int .i64 so) (h:=?_)
    simp only[p1,p2,p3,p4,p5]
    refine kT 6 (some 60) (.pointer (some ⟨gl,0,none⟩)) (h:=?_)
    simp only[p1,p2,p3,p4,p5]
    refine kT 7 (some 61) (.pointer (some ⟨gl,1,none⟩)) (h:=?_)
    simp only[p1,p2,p3,p4,p5]
    refine kT 8 (some 62) (.pointer (some ⟨gl,1+so*2,none⟩)) (h:=?_)
    simp only[p1,p2,p3,p4,p5]
    refine kL 9 (some 63) (cs:=[.int .i64 sf,.int .i64 h]) (fun _ hX=>HSM.out _ hX) (rfl) (h:=?_)
    simp only[p1,p2,p3,p4,p5]
    refine kM 10 (some 64) (.int .u32 gn) (h:=?_)
    simp only[p1,p2,p3,p4,p5]
    refine kF 11 (some 65) ((HCC.out wU HKU.dk).mono ?_)
    rintro e w9 ⟨rfl,m9,hk9,ht9⟩
    refine⟨_,rfl,(ht9.off hH.lt HAX.out.1).trans hH,fun hH9=>?_⟩
    simp only[p1,p2,p3,p4,p5]
    refine kT 12 (some 8) (valE wa) (h:=?_)
    simp only[p1,p2,p3,p4,p5]
    refine kE (h:=?_)
    have HKY:Hid (LK w9 m9 wd gl h L):=Lib.hid (HKU.disk hk9 ht9 HWL.out)
    have HTY:Hid (LT gl w m w9 m9):=Lib.hid ((HTX.trans (LT.of_below HDU.out)).trans (LT.of_dt ht9))
    clear hk9 ht9 hH hH9
    cases wa with
    | some x=>
     obtain⟨t,u,hv⟩:=valE_form x
     have HN:=Lib.hid (log_note (some x) w9 m9 wd gl h L HKY.out)
     have HVE:=Lib.hid hv
     rw[hv] at HN ⊢
     have hne:=neq_nil t u
     clear hv
     go_wp2_with fail
     refine HN.mono ?_
     rintro e w6 ⟨rfl,hk6,ht6⟩
     have HK6:=Lib.hid hk6
     have HT6:=Lib.hid (HTY.trans ht6)
     clear hk6 ht6
     go_wp2_with fail
     go_ret
     exact⟨by rw[HW3.out];show _=Ending.returned (valE (some x));rw[HVE.out];rfl,m9,by rw[HW3.out];exact HK6.out,HT6.out⟩
    | none=>
     obtain⟨c0,c5,c6,c7,c8,c9⟩:=HKY.cells
     have f5:=HKY.blk.frozen 5
     have f7:=HKY.blk.frozen 7
     have f8:=HKY.blk.frozen 8
     have hg9:gl<w9.heap.size:=HKY.blk.lt
     have hv:valE none = .nilIface:=rfl
     rw[hv]
     clear hv
     go_wp2_with fail
     go_ret
     have HO:=HKY.ok
     refine⟨by rw[HW3.out];rfl,m9,?_,((HTY.set 5 _).set 7 _).set 8 _⟩
     rw[HW3.out]
     exact((HKY.set (L':={ L with side:=so }) 5 _ rfl ⟨hso2,HO.last,HO.gen,HO.cnt,HO.half⟩).set (L':={ L with side:=so,gen:=gn }) 7 _ rfl ⟨hso2,HO.last,HG4.out,HO.cnt,HO.half⟩).set 8 _ rfl ⟨hso2,HO.last,HG4.out,hln,HO.half⟩
  ·obtain rfl:gm=4294967295:=by have:=HM4.out;omega
   have HV:Hid (rewR d h L qs=(some (13,none),d,L)):=Lib.hid (by rw[HR1.out,if_pos rfl])
   clear HR1 HGI
   go_wp2_with fail
   go_ret
   exact⟨by rw[HV.out];rfl,m,by rw[HV.out];exact HKS.out,LT.of_below HWS.out⟩
end Go.Proofs.YtiaigidbcljblaaGreatDoor
