import Derived.Test.YtombncedfleljaaGreatMC29
set_option linter.unusedSimpArgs false
set_option maxRecDepth 100000
set_option maxHeartbeats 40000000
namespace Go.Proofs.YtombncedfleljaaGreat
open Go.RowKit
attribute [local irreducible] wpQuiet wpAnyH
def kK(d:DiskD):FSt:=fAt d (d.sec.length/2) ⟨0,bV d d.sec.length,0,0,false⟩ 2
def fF(d:DiskD):Ans×DiskD×Option (LogD×List aW):=match (kK d).1 with
 | some es=>(none,d,some ((kK d).2,es))
 | none=>if bV d d.sec.length=4294967295 then (some (13,none),d,none) else match wsA d 0 (rec (bV d d.sec.length+1) toll) with
  | some x=>(some x,wsD d 0 (rec (bV d d.sec.length+1) toll),none)
  | none=>(none,wsD d 0 (rec (bV d d.sec.length+1) toll),some (⟨0,bV d d.sec.length,bV d d.sec.length+1,0,false⟩,[]))
def openR(d:DiskD):Ans×DiskD×Option (LogD×List aW):=if d.sec.length<2 then (some (15,none),d,none) else match syncA d with
 | some x=>(some x,syncS d,none)
 | none=>fF (syncS d)
theorem sA{d:DiskD}(h:syncA d=none):(syncS d).down=false∧(syncS d).opn=[]:=by
 unfold syncA at h;unfold syncS;split at h
 ·cases h
 ·rename_i hd;split at h
  ·cases h
  ·rename_i h2;split at h
   ·cases h
   ·rename_i h1;rw[if_neg hd,if_neg h2,if_neg h1];exact⟨by simpa [yH,stepped] using hd,rfl⟩
theorem GM{d:DiskD}(h:d.steps≤d.room):(syncS d).room≤d.room+1:=by
 have h1:=nE h;unfold syncS;split
 ·omega
 ·split
  ·exact h1
  ·split
   ·exact h1
   ·exact h1
theorem CW(d:DiskD)(h:Nat)(L:LogD)(hL:L.side<2∧L.last<4294967296∧L.gen<4294967296∧L.cnt≤10000)(hs:∀ f,(dD d f h).2.length≤10000∧∀ g,(dD d f h).1=some g→g<4294967296):∀ k,k≤2 →
  ((fAt d h L k).1=none→(fAt d h L k).2=L)∧(fAt d h L k).2.side<2∧(fAt d h L k).2.last=L.last∧(fAt d h L k).2.gen<4294967296∧(fAt d h L k).2.cnt≤10000
 | 0,_=>⟨fun _=>rfl,hL.1,rfl,hL.2.2.1,hL.2.2.2⟩
 | k+1,hk=>by
  have ih:=CW d h L hL hs k (by omega);have h2:=hs (aY h k);unfold fAt fA;cases hg:(dD d (aY h k) h).1 with
  | none=>exact ih
  | some g=>
   simp only;split
   ·exact ih
   ·exact⟨fun e=>by simp at e,by show k<2;omega,ih.2.2.1,h2.2 g hg,h2.1⟩
theorem GN{s:List Int}(hs:Sec s){g:Nat}(h:fH s=some g):g<4294967296:=by
 unfold fH at h;cases hp:prs s with
 | none=>rw[hp] at h;cases h
 | some x=>
  obtain⟨g',p⟩:=x;rw[hp] at h;simp only at h;split at h
  ·injection h with h
   subst h;rw[qC hp];exact lO hs
  ·cases h
theorem oH:∀(L:List (List Int)) (st:SSt),(∀ s∈L,Sec s)→(∀ g,st.1=some g→g<4294967296)→∀ g,(bT st L).1=some g→g<4294967296
 | [],st,_,h0,g,h=>h0 g h
 | s :: L,st,hL,h0,g,h=>by
  rw[bT] at h;cases hq:eM st s with
  | none=>rw[hq] at h;exact h0 g h
  | some st'=>
   rw[hq] at h;refine oH L st' (fun x hx=>hL x (List.mem_cons_of_mem _ hx)) (fun g' hg'=>?_) g h;have hs:=hL s (List.mem_cons_self ..);unfold eM at hq;cases h1:st.1 with
   | none=>
    rw[h1] at hq;simp only at hq;cases hp:fH s with
    | none=>rw[hp] at hq;cases hq
    | some g2=>
     rw[hp] at hq;simp only[Option.map_some,Option.some.injEq] at hq;rw[← hq] at hg';simp only[Option.some.injEq] at hg';rw[← hg'];exact GN hs hp
   | some g2=>
    rw[h1] at hq;simp only at hq;cases hp:fB s with
    | none=>rw[hp] at hq;cases hq
    | some ge=>
     rw[hp] at hq;simp only at hq;split at hq
     ·simp only[Option.some.injEq] at hq;rw[← hq] at hg';simp only[Option.some.injEq] at hg';rw[← hg'];exact h0 g2 h1
     ·cases hq
theorem GO{d:DiskD}(h:DOk d)(f n:Nat):(dD d f n).2.length≤10000∧∀ g,(dD d f n).1=some g→g<4294967296:=by
 have h1:=iB ((d.sec.drop f).take n) (none,[]);have h2:=h.few;rw[List.length_take,List.length_drop] at h1;refine⟨by unfold dD;simp at h1;omega,fun g hg=>oH _ _ (fun s hs=>h.sec s (List.mem_of_mem_drop (List.mem_of_mem_take hs))) (fun g hg=>by cases hg) g hg⟩
def pK(w w':World)(m':DiskM)(n:Nat)(r:Ans×DiskD×Option (LogD×List aW))(pl ve:Value):Prop:=match r.2.2 with
 | none=>pl = .pointer none∧ve = .slice none 0 0
 | some (L,es)=>∃ gl,pl = .pointer (some ⟨gl,0,none⟩)∧LK w' m' r.2.1 gl (n/2) L∧w.heap.size≤gl∧w'.ownsRow w.heap.size 35 33 ve es.length (es.flatMap aC)∧(∀ q∈es,EntOk q)∧(∀ b,ve.ownBlock=some b→Apart m' b∧b≠gl)
theorem GP(w:World)(m:DiskM)(d:DiskD)(hk:DK w m d)(hr:d.room+10≤100000):
  Calls Tryz.prog 42 #[.pointer (some ⟨m.g,0,none⟩)] w fun e w'=>∃ pl ve m',e = .returned (.tuple #[pl,ve,cC (openR d).1])∧DK w' m' (openR d).2.1∧DT w m w' m'∧pK w w' m' d.sec.length (openR d) pl ve:=by
 have HK:=jz hk;have hlen:=hk.ok.few;have HSZ:=jz (fun W M D (h:DK W M D)=>uH W M D h);have HSY:=jz (lH w m d hk (by omega));rw[lJ] at HSY;have hnn:=nL;obtain⟨g9,hg9⟩:=je m.g;have HG9:Hid (m.g=g9):=jz hg9.symm;obtain⟨n,hn⟩:=je d.sec.length;have HN:Hid (d.sec.length=n):=jz hn.symm;have hn4:(n:Int)≤4096:=by omega
 have HZ1:=jz (HSZ.out w m d hk);have hst:=hk.ok.st;rw[← hg9,← hn] at HZ1;rw[← hg9] at HSY;rw[← hg9,← hn];clear hk hg9;rcases Nat.lt_or_ge n 2 with h2|h2
 ·have HV:Hid (openR d=(some (15,none),d,none)):=jz (by unfold openR;rw[if_pos (by omega)]);have hi:(n:Int)<2:=by omega
  clear hn;go_enter Tryz.func42,Tryz.ntmps42
  go_wp2_with fail
  refine HZ1.mono ?_;rintro e wq ⟨rfl,hwq⟩;rw[hwq];clear hwq wq;go_wp2_with fail
  refine bodyPost_ret (results_tmp3 rfl _ _ _) rfl ?_;exact⟨_,_,m,by rw[HV.out];rfl,by rw[HV.out];exact HK.out,DT.refl,by unfold pK;rw[HV.out];exact⟨rfl,rfl⟩⟩
 have hi:(2:Int)≤n:=by omega
 cases hsa:syncA d with
 | some x=>
  have HV:Hid (openR d=(some x,syncS d,none)):=jz (by unfold openR;rw[if_neg (by omega),hsa]);obtain⟨t,u,hv⟩:=cV x;rw[hsa,hv] at HSY;have HVE:Hid (cC (some x) = .iface t u):=jz hv;have hne:=dS t u;clear hn hsa hv;go_enter Tryz.func42,Tryz.ntmps42
  go_wp2_with fail
  refine HZ1.mono ?_;rintro e wq ⟨rfl,hwq⟩;rw[hwq];clear hwq wq;go_wp2_with fail
  refine HSY.mono ?_;rintro e w1 ⟨rfl,m1,hk1,ht1⟩;go_wp2_with fail
  refine bodyPost_ret (results_tmp3 rfl _ _ _) rfl ?_;exact⟨_,_,m1,by rw[HV.out,HVE.out];rfl,by rw[HV.out];exact hk1,ht1,by unfold pK;rw[HV.out];exact⟨rfl,rfl⟩⟩
 | none=>
  obtain⟨d1,hd1⟩:=je (syncS d);have HV:Hid (openR d=fF d1):=jz (by unfold openR;rw[if_neg (by omega),hsa,hd1]);have HD1:Hid (d1.down=false∧d1.opn=[]∧d1.sec.length=n∧d1.room≤d.room+1):=jz (by rw[hd1];exact⟨(sA hsa).1,(sA hsa).2,(eV d).trans hn.symm,GM hst⟩);rw[← hd1,hsa] at HSY;simp only[cC] at HSY;clear hn hsa hd1;go_enter Tryz.func42,Tryz.ntmps42
  go_wp2_with fail
  refine HZ1.mono ?_;rintro e wq ⟨rfl,hwq⟩;rw[hwq];clear hwq wq;go_wp2_with fail
  refine HSY.mono ?_;rintro e w1 ⟨rfl,m1,hk1,ht1⟩;obtain rfl:m1.g=g9:=ht1.g.trans HG9.out;have HK1:=jz hk1;have HT1:=jz ht1;obtain⟨w2,hw2⟩:=je (w1.alloc (.cells (cH m1.g 0 ⟨0,0,0,0,false⟩) 109));have HB2:Hid (Blk w2 w1.heap.size 109 (cH m1.g 0 ⟨0,0,0,0,false⟩)):=jz (by rw[hw2];exact Blk.new _ _ _);have HW2:Hid (Below w1.heap.size w1 w2):=jz (by rw[hw2];exact aN _ _);clear hk1 ht1 HSY HZ1;go_upto_region 7 with fail
  obtain⟨gl,hgl⟩:=je w1.heap.size;have HGL:Hid (w1.heap.size=gl):=jz hgl.symm;have hw2':w2=w1.alloc (.cells #[.pointer (some ⟨m1.g,0,none⟩),.int .i64 0,.int .i64 0,.int .i64 0,.int .i64 0,.int .i64 0,.int .u32 0,.int .u32 0,.int .i64 0,.bool false] 109):=hw2;rw[← hw2'];rw[← hgl] at HB2 ⊢;have hgs:=HB2.lt;clear hw2 hw2' hgl;obtain⟨wS,hwS⟩:=je w2.drew;have HDW:Hid (Below w2.heap.size w2 wS):=jz (by rw[hwS];exact(Below.refl _ _).drew);have HKS:=jz ((HK1.keep HW2.out).keep HDW.out);have HB2S:=jz (HB2.keep HDW.out);refine kZ (n:=16) (fun _=>True) (trivial) (h:=fun hH=>?_);rw[← hwS];clear hwS;refine kM 0 (some 25) (.pointer (some ⟨gl,0,none⟩)) (h:=?_);simp only[jq];refine kM 1 (some 26) (.pointer (some ⟨gl,0,none⟩)) (h:=?_);simp only[jq];refine kM 2 (some 27) (.pointer (some ⟨m1.g,0,none⟩)) (h:=?_);simp only[jq];refine kT 8 (some 32) (.pointer (some ⟨gl,0,none⟩)) (h:=?_);simp only[jq];refine kT 9 (some 33) (.pointer (some ⟨gl,1,none⟩)) (h:=?_);simp only[jq];refine kT 12 (some 35) (.pointer (some ⟨gl,0,none⟩)) (h:=?_);simp only[jq];refine kT 13 (some 36) (.pointer (some ⟨gl,1,none⟩)) (h:=?_);simp only[jq];refine kF 3 (some 28) ((HSZ.out wS m1 d1 HKS.out).mono ?_);rintro e w3 ⟨rfl,rfl⟩;refine⟨_,rfl,trivial,fun hH=>?_⟩;simp only[jq];rw[HD1.out.2.2.1];refine kF 4 (some 29) ((yZ n w3 (by omega)).mono ?_);rintro e w4 ⟨rfl,hb4⟩;refine⟨_,rfl,trivial,fun hH=>?_⟩;simp only[jq];refine kM 5 (some 24) (.tuple #[.agg #[.int .i64 0,.int .i64 ((n/2:Nat):Int)],.agg #[.int .i64 ((n/2:Nat):Int),.int .i64 ((n/2:Nat):Int)]]) (h:=?_);simp only[jq];refine kT 6 (some 30) (.agg #[.int .i64 0,.int .i64 ((n/2:Nat):Int)]) (h:=?_);simp only[jq];refine kT 7 (some 31) (.agg #[.int .i64 ((n/2:Nat):Int),.int .i64 ((n/2:Nat):Int)]) (h:=?_);simp only[jq];refine kT 10 (some 34) (.pointer (some ⟨gl,1,none⟩)) (h:=?_);simp only[jq];obtain⟨hf,hhf⟩:∃ hf:Nat,hf=n/2:=⟨_,rfl⟩;rw[← hhf];have hB4:=(HB2S.keep hb4);have HST1:=eL (t:=109) [.pointer (some ⟨m1.g,0,none⟩)] [.int .i64 0,.int .i64 0] [.int .i64 0,.int .i64 0,.int .i64 0,.int .u32 0,.int .u32 0,.int .i64 0,.bool false] [.int .i64 0,.int .i64 hf] hB4 rfl;have HST2:=eL (t:=109) [.pointer (some ⟨m1.g,0,none⟩),.int .i64 0,.int .i64 hf] [.int .i64 0,.int .i64 0] [.int .i64 0,.int .u32 0,.int .u32 0,.int .i64 0,.bool false] [.int .i64 hf,.int .i64 hf] HST1.1 rfl;have hone:∀ a b:Int,∀ u∈[Value.int .i64 a,Value.int .i64 b],u.oneCell'=true:=fun a b u hu=>by simp only[List.mem_cons,List.not_mem_nil,or_false] at hu;rcases hu with rfl|rfl <;> rfl
  refine kR 11 none (n:=2) (cs:=[.int .i64 0,.int .i64 hf]) (cZ hB4 (by show 1+2≤10;omega)) rfl (hone _ _) trivial (h:=?_);simp only[jq];refine kT 14 (some 37) (.pointer (some ⟨gl,3,none⟩)) (h:=?_);simp only[jq];refine kR 15 none (n:=2) (cs:=[.int .i64 hf,.int .i64 hf]) (cZ HST1.1 (by show 3+2≤10;omega)) rfl (hone _ _) trivial (h:=?_);simp only[jq];refine kE (h:=?_);obtain⟨w5,hw5⟩:=je ((w4.setCells gl 1 [.int .i64 0,.int .i64 hf]).setCells gl 3 [.int .i64 hf,.int .i64 hf]);rw[← hw5];have HB5:Hid (Blk w5 gl 109 (cH m1.g hf ⟨0,0,0,0,false⟩)):=jz (by rw[hw5];exact HST2.1);have HO5:Hid (Off gl w4 w5):=jz (by rw[hw5];exact HST1.2.1.trans HST2.2.1);have HHF:Hid (n/2=hf):=jz hhf.symm;have HLW:Hid (Below w1.heap.size w1 w5):=jz ((aB (aB HW2.out HDW.out) hb4).trans (HO5.below (by rw[HGL.out];exact Nat.le_refl _) (by have h1:=HW2.size;have h2:=HDW.size;have h3:=hb4.size;omega)));have HK5:=jz (HK1.keep HLW.out);have HAP:Hid (Apart m1 gl):=jz (Apart.fresh HK1.out (by rw[HGL.out];exact Nat.le_refl _));have hlen1:=HD1.out.2.2.1;have HL5:=jz (pY w5 m1 d1 HK5.out HD1.out.1);rw[hlen1] at HL5;obtain⟨la,hla⟩:=je (bV d1 n);have HLT:Hid (la<4294967296):=jz (by rw[hla];exact rV HK1.ok n);rw[← hla] at HL5;have hla4:(la:Int)≤4294967295:=by have:=HLT.out;omega
  have HOF:Hid (kK d1=fAt d1 hf ⟨0,la,0,0,false⟩ 2):=jz (by unfold kK;rw[hlen1,HHF.out,← hla]);have HLA:Hid (bV d1 d1.sec.length=la):=jz (by rw[hlen1];exact hla.symm);have HHL:Hid (hf+hf≤d1.sec.length∧hf=d1.sec.length/2):=jz (by rw[hlen1];omega);have HHN:Hid (hf=d.sec.length/2):=jz (by rw[HN.out];omega);clear hla hlen1 hhf HST1 HST2 hone hb4 hB4 hw5 HO5 hgs;go_wp2_with fail
  refine HL5.mono ?_;rintro e w6 ⟨rfl,hb6⟩;have HB6:=jz (HB5.keep hb6);have HL6:Hid (Below w1.heap.size w1 w6):=jz (aB HLW.out hb6);have c6:w6.cell? ⟨gl,6,none⟩=some (.int .u32 0):=(HB6.cell 6).trans rfl;have f6:=HB6.frozen 6;have hgs6:=HB6.lt;clear hb6;go_wp2_with fail
  obtain⟨w7,hw7⟩:=je (w6.setCell ⟨gl,6,none⟩ (.int .u32 la));have HB7:Hid (Blk w7 gl 109 (cH m1.g hf ⟨0,la,0,0,false⟩)):=jz (by rw[hw7];exact HB6.set_ 6 _);have HL7:Hid (Below w1.heap.size w1 w7):=jz (by rw[hw7];exact HL6.setCell (p:=⟨gl,6,none⟩) (by rw[HGL.out];exact Nat.le_refl _) _);rw[← hw7];clear hw7 c6 f6 hgs6;refine(GL w7 m1 d1 gl hf ⟨0,la,0,0,false⟩ (HK1.keep HL7.out) HB7.out HAP.out HD1.out.1 HD1.out.2.1 HHL.out.1).mono ?_;rintro e w8 ⟨v,rfl,hfr⟩;have hinv:=CW d1 hf ⟨0,la,0,0,false⟩ ⟨by show 0<2;omega,HLT.out,by show 0<_;omega,by show 0≤_;omega⟩ (fun f=>GO HK1.ok f hf) 2 (Nat.le_refl _);rw[← HOF.out] at hfr hinv ⊢;obtain⟨p,hp⟩:=je (kK d1);have HP:Hid (kK d1=p):=jz hp.symm;rw[← hp] at hfr hinv ⊢;have HL8:Hid (Below w1.heap.size w1 w8):=jz (HL7.trans (hfr.fo.below (fun k hk=>by rw[List.mem_singleton] at hk;rw[hk,HGL.out];exact Nat.le_refl _) HL7.size));have HLK:Hid (LK w8 m1 d1 gl hf p.2):=jz ⟨hfr.dk,hfr.blk,HAP.out,⟨hinv.2.1,by rw[hinv.2.2.1];exact HLT.out,hinv.2.2.2.1,hinv.2.2.2.2,HHL.out.2⟩⟩;have HOW:Hid (w8.ownsRow w.heap.size 35 33 v (p.1.getD []).length ((p.1.getD []).flatMap aC)):=jz (dI hfr.own (by have h1:=HT1.fo.size;have h2:=HL7.size;omega));have HOA:Hid (∀ b,v.ownBlock=some b→Apart m1 b∧b≠gl):=jz (fun b e=>⟨Apart.fresh (HK1.keep HL7.out) (hfr.own.lt b e).1,fun e2=>by have h1:=HB7.lt;have h2:=(hfr.own.lt b e).1;omega⟩);have HEO:=jz hfr.ok;have HGW:Hid (w.heap.size≤gl):=jz (by have h1:=HT1.fo.size;have h2:=HGL.out;omega);have HIN:=jz hinv.1;have HTB:Hid (DT w m w8 m1):=jz (HT1.trans (DT.of_below HL8.out));clear hp hfr hinv;cases hp1:p.1 with
  | some es=>
   have HSV:Hid (fF d1=(none,d1,some (p.2,es))):=jz (by unfold fF;rw[HP.out,hp1]);rw[hp1] at HOW HEO;clear hp1;simp only[Option.isSome_some];go_wp2_with fail
   refine bodyPost_ret (results_tmp3 rfl _ _ _) rfl ?_;refine⟨_,_,m1,by rw[HV.out,HSV.out];rfl,by rw[HV.out,HSV.out];exact HLK.dk,HTB.out,?_⟩;unfold pK;rw[HV.out,HSV.out];exact⟨gl,rfl,by rw[HHF.out];exact HLK.out,HGW.out,HOW.out,HEO.out,HOA.out⟩
  | none=>
   simp only[Option.isSome_none];rcases Nat.lt_or_ge la 4294967295 with hmx|hmx
   ·have HP0:Hid (p.2=⟨0,la,0,0,false⟩):=jz (HIN.out hp1);have hne:la≠4294967295:=by omega
    obtain⟨gn,hgn⟩:=je (la+1);have HSV:Hid (fF d1=match wsA d1 0 (rec gn toll) with
      | some x=>(some x,wsD d1 0 (rec gn toll),none)
      | none=>(none,wsD d1 0 (rec gn toll),some (⟨0,la,gn,0,false⟩,[]))):=jz (by unfold fF;rw[HP.out,hp1];simp only[HLA.out,if_neg hne,hgn])
    have HB8:Hid (Blk w8 gl 109 (cH m1.g hf ⟨0,la,0,0,false⟩)):=jz (by have h:=HLK.blk;rw[HP0.out] at h;exact h);have c5:w8.cell? ⟨gl,5,none⟩=some (.int .i64 0):=(HB8.cell 5).trans rfl;have c7:w8.cell? ⟨gl,7,none⟩=some (.int .u32 0):=(HB8.cell 7).trans rfl;have f5:=HB8.frozen 5;have f7:=HB8.frozen 7;have hgs8:=HB8.lt;have HLA5:Hid ((la:Int)<4294967295):=jz (by omega);have t9:((la:Int) == 4294967295)=false:=by rw[beq_eq_false_iff_ne];omega
    have HGI:Hid ((la:Int)+1=gn):=jz (by omega);have HGN:Hid (gn<4294967296):=jz (by omega);clear hp1 hgn hne hmx hla4;go_upto_region 19 with fail
    have hla5:=HLA5.out;go_upto_region 21 with fail
    rw[HGI.out];obtain⟨w9,hw9⟩:=je ((w8.setCell ⟨gl,5,none⟩ (.int .i64 0)).setCell ⟨gl,7,none⟩ (.int .u32 (gn:Int)));have HB9:Hid (Blk w9 gl 109 (cH m1.g hf ⟨0,la,gn,0,false⟩)):=jz (by rw[hw9];exact(HB8.set_ 5 _).set_ 7 _);have hk9:∀ j,j≠gl→w9.heap[j]? = w8.heap[j]?:=fun j hj=>by rw[hw9,Below.heap_setCell _ ⟨gl,7,none⟩ _ j hj,Below.heap_setCell _ ⟨gl,5,none⟩ _ j hj]
    have HK9:Hid (DK w9 m1 d1):=jz (HLK.dk.offK hk9 (by rw[hw9];simp) HAP.out);have HT9:Hid (DT w m w9 m1):=jz (HT1.trans (DT.of_below (by rw[hw9];exact(HL8.setCell (p:=⟨gl,5,none⟩) (by rw[HGL.out];exact Nat.le_refl _) _).setCell (p:=⟨gl,7,none⟩) (by rw[HGL.out];exact Nat.le_refl _) _)));rw[← hw9];clear hw9 hk9 c5 c7 f5 f7 t9;obtain⟨wS,hwS⟩:=je w9.drew;have HDS:Hid (Below w9.heap.size w9 wS):=jz (by rw[hwS];exact(Below.refl _ _).drew);have HKS:=jz (HK9.keep HDS.out);have HSL:Hid (∀ W,Blk W gl 109 (cH m1.g hf ⟨0,la,gn,0,false⟩)→W.rangeAt gl 1 [.int .i64 0,.int .i64 hf]):=jz (fun W hk=>nH hk 0 (by omega));refine kZ (n:=12) (fun W=>Blk W gl 109 (cH m1.g hf ⟨0,la,gn,0,false⟩)) (by rw[← hwS];exact HB9.keep HDS.out) (h:=fun hH=>?_);rw[← hwS] at hH ⊢;clear hwS;refine kM 0 (some 73) (.pointer (some ⟨m1.g,0,none⟩)) (h:=?_);simp only[jq];refine kM 1 (some 74) (.pointer (some ⟨gl,0,none⟩)) (h:=?_);simp only[jq];refine kT 2 (some 75) (.pointer (some ⟨gl,0,none⟩)) (h:=?_);simp only[jq];refine kT 3 (some 76) (.pointer (some ⟨gl,1,none⟩)) (h:=?_);simp only[jq];refine kT 4 (some 77) (.pointer (some ⟨gl,1,none⟩)) (h:=?_);simp only[jq];refine kL 5 (some 78) (cs:=[.int .i64 0,.int .i64 hf]) (fun _ hX=>HSL.out _ hX) (rfl) (h:=?_);simp only[jq];refine kM 6 (some 79) (.pointer (some ⟨gl,0,none⟩)) (h:=?_);simp only[jq];refine kT 7 (some 80) (.pointer (some ⟨gl,0,none⟩)) (h:=?_);simp only[jq];refine kT 8 (some 81) (.pointer (some ⟨gl,7,none⟩)) (h:=?_);simp only[jq];refine kC 9 (some 82) (v:=.int .u32 gn) (fun _ hX=>(hX.cell 7).trans rfl) (h:=?_);simp only[jq];refine kF 10 (some 83) ((pA 0 hf gn wS m1 d1 HKS.out (by exact⟨by decide,by decide⟩) HGN.out (by have:=HD1.out.2.2.2;omega)).mono ?_);rintro e w10 ⟨rfl,m2,hk10,ht10⟩;have hB10:Blk w10 gl 109 (cH m1.g hf ⟨0,la,gn,0,false⟩):=(ht10.off hH.lt HAP.out.1).trans hH;refine⟨_,rfl,hB10,fun hH10=>?_⟩;simp only[jq];refine kT 11 (some 11) (cC (wsA d1 0 (rec gn toll))) (h:=?_);simp only[jq];refine kE (h:=?_);have HKX:=jz hk10;have HTX:=jz ((HT9.trans (DT.of_below HDS.out)).trans ht10);have HAX:=jz (HAP.next hH.lt ht10);have HBX:Hid (Blk w10 gl 109 (cH m2.g hf ⟨0,la,gn,0,false⟩)):=jz (by rw[ht10.g];exact hB10);clear hk10 ht10 hB10 hH10 hH;cases hpa:wsA d1 0 (rec gn toll) with
    | some x=>
     have HSW:Hid (fF d1=(some x,wsD d1 0 (rec gn toll),none)):=jz (by rw[HSV.out,hpa]);obtain⟨t,u,hv⟩:=cV x;have HVE:=jz hv;have hne:=dS t u;rw[hv];clear hpa hv;go_wp2_with fail
     refine bodyPost_ret (results_tmp3 rfl _ _ _) rfl ?_;refine⟨_,_,m2,by rw[HV.out,HSW.out,HVE.out];rfl,by rw[HV.out,HSW.out];exact HKX.out,HTX.out,?_⟩;unfold pK;rw[HV.out,HSW.out];exact⟨rfl,rfl⟩
    | none=>
     have HSW:Hid (fF d1=(none,wsD d1 0 (rec gn toll),some (⟨0,la,gn,0,false⟩,[]))):=jz (by rw[HSV.out,hpa]);have hv:cC none = .nilIface:=rfl;rw[hv];clear hpa hv;go_wp2_with fail
     refine bodyPost_ret (results_tmp3 rfl _ _ _) rfl ?_;refine⟨_,_,m2,by rw[HV.out,HSW.out];rfl,by rw[HV.out,HSW.out];exact HKX.out,HTX.out,?_⟩;unfold pK;rw[HV.out,HSW.out];exact⟨gl,rfl,by rw[HHF.out];exact⟨HKX.out,HBX.out,HAX.out,⟨by show 0<2;omega,HLT.out,HGN.out,by show 0≤10000;omega,by rw[j7];exact HHL.out.2⟩⟩,HGW.out,World.ownsRow_nil _ _ _ _,(fun q hq=>by cases hq),fun b e=>by cases e⟩
   ·obtain rfl:la=4294967295:=by have:=HLT.out;omega
    have HSV:Hid (fF d1=(some (13,none),d1,none)):=jz (by unfold fF;rw[HP.out,hp1];simp only[HLA.out];rfl);clear hp1;go_wp2_with fail
    refine bodyPost_ret (results_tmp3 rfl _ _ _) rfl ?_;refine⟨_,_,m1,by rw[HV.out,HSV.out];rfl,by rw[HV.out,HSV.out];exact HLK.dk,HTB.out,?_⟩;unfold pK;rw[HV.out,HSV.out];exact⟨rfl,rfl⟩
end Go.Proofs.YtombncedfleljaaGreat
