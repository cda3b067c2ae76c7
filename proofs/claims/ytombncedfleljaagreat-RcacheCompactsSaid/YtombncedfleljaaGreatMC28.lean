import Derived.Test.YtombncedfleljaaGreatMC24
set_option linter.unusedSimpArgs false
set_option maxRecDepth 100000
set_option maxHeartbeats 40000000
namespace Go.Proofs.YtombncedfleljaaGreat
section
open Go.RowKit
attribute [local irreducible] wpQuiet wpAnyH
def lW(d:DiskD)(h:Nat)(L:LogD)(q:aW):Ans:=if L.brk then some (11,none) else putA d (aY h L.side) h ((L.cnt+1:Nat):Int) L.gen q
def appD(d:DiskD)(h:Nat)(L:LogD)(q:aW):DiskD:=if L.brk then d else putD d (aY h L.side) h ((L.cnt+1:Nat):Int) L.gen q
def LX(L:LogD):Ans→LogD
 | none=>{ L with cnt:=L.cnt+1 }
 | some x=>iT L x.1
def iI(d:DiskD)(h:Nat)(L:LogD)(q:aW):LogD:=if L.brk then L else LX L (putA d (aY h L.side) h ((L.cnt+1:Nat):Int) L.gen q)
theorem uJ(d:DiskD)(a:Int)(s:List Int):(addIf d a s).sec.length=d.sec.length:=by
 unfold addIf;split <;> rfl
theorem j6(d:DiskD)(a:Int)(s:List Int):(writeD d a s).sec.length=d.sec.length:=by
 unfold writeD;split
 ·rfl
 ·split
  ·exact(cU _ _ _).trans (uJ (stepped d) a s)
  ·split
   ·rfl
   ·exact uJ (stepped d) a s
theorem eV(d:DiskD):(syncS d).sec.length=d.sec.length:=by
 unfold syncS;split
 ·rfl
 ·split
  ·exact cU _ _ _
  ·split
   ·rfl
   ·exact fE _ _ _
theorem j7(d:DiskD)(a:Int)(s:List Int):(wsD d a s).sec.length=d.sec.length:=by
 unfold wsD;split
 ·exact j6 _ _ _
 ·exact(eV _).trans (j6 _ _ _)
theorem uK:∀(l:List (List Int)) (d:DiskD) (a:Int),(fillW d a l).2.sec.length=d.sec.length
 | [],d,_=>eV d
 | s :: l,d,a=>by
  unfold fillW;split
  ·exact j6 _ _ _
  ·exact(uK l _ _).trans (j6 _ _ _)
theorem oG(d:DiskD)(f z:Int)(g:Nat)(l:List aW):(fillR d f z g l).2.sec.length=d.sec.length:=by
 unfold fillR;split
 ·rfl
 ·split
  ·exact uK _ _ _
  ·rfl
theorem AU{h s:Nat}(hh:h≤4096):0≤(aY h s:Int)∧(aY h s:Int)≤100000:=by
 unfold aY;split <;> omega
theorem LogOk.h_le{w:World}{m:DiskM}{d:DiskD}{gl h:Nat}{L:LogD}(k:LK w m d gl h L):h≤4096:=by
 have:=k.ok.half;have:=k.dk.ok.few;omega
theorem y3(d:DiskD)(f z p:Int)(g:Nat)(q:aW):(putD d f z p g q).sec.length=d.sec.length:=by
 unfold putD;split
 ·rfl
 ·split
  ·rfl
  ·split
   ·exact j7 _ _ _
   ·rfl
theorem JZ{d:DiskD}{f z p:Int}{g:Nat}{q:aW}(h:putA d f z p g q=none):1≤p∧p≤room z:=by
 unfold putA at h;split at h
 ·cases h
 ·split at h
  ·cases h
  ·omega
theorem r8(q:aW)(w:World)(m:DiskM)(d:DiskD)(gl h:Nat)(L:LogD)(k:LK w m d gl h L)(hq:EntOk q)(hr:d.room+3≤100000):
  Calls Tryz.prog 33 #[.pointer (some ⟨gl,0,none⟩),.agg (aC q).toArray] w fun e w'=>e = .returned (cC (lW d h L q))∧∃ m',LK w' m' (appD d h L q) gl h (iI d h L q)∧LT gl w m w' m':=by
 have hh:=LogOk.h_le k;have HK:=jz k;have HQ:=jz hq;have hql:=aH q hq;obtain⟨w1,hw1⟩:=je (w.alloc (.cells (aC q).toArray 35));have HE1:Hid (Blk w1 w.heap.size 35 (aC q).toArray):=jz (by rw[hw1];exact Blk.new _ _ _);have HW1:Hid (Below w.heap.size w w1):=jz (by rw[hw1];exact aN _ _);have HK1:=jz (HK.keep HW1.out);obtain⟨c0,c5,c6,c7,c8,c9⟩:=HK1.cells;clear k hq;cases hb:L.brk with
 | true=>
  have HV:Hid (lW d h L q=some (11,none)∧appD d h L q=d∧iI d h L q=L):=jz (by unfold lW appD iI;rw[hb];exact⟨rfl,rfl,rfl⟩);rw[hb] at c9;clear hb;go_enter Tryz.func33,Tryz.ntmps33
  go_upto_region 1 with fail
  rw[← hw1];clear hw1;go_wp2_with fail
  go_ret;exact⟨by rw[HV.out.1];rfl,m,by rw[HV.out.2.1,HV.out.2.2];exact HK1.out,LT.of_below HW1.out⟩
 | false=>
  obtain⟨pa,hpa⟩:=je (putA d (aY h L.side) h ((L.cnt+1:Nat):Int) L.gen q);obtain⟨pd,hpd⟩:=je (putD d (aY h L.side) h ((L.cnt+1:Nat):Int) L.gen q);have HV:Hid (lW d h L q=pa∧appD d h L q=pd∧iI d h L q=LX L pa):=jz (by unfold lW appD iI;rw[hb,hpa,hpd];exact⟨rfl,rfl,rfl⟩);rw[hb] at c9;have hs2:=AU (s:=L.side) hh;have hcn:(L.cnt:Int)≤10000:=by have:=HK.ok.cnt;omega
  have HP:=jz (fun W M (kk:LK W M d gl h L)=>FT (aY h L.side) h ((L.cnt+1:Nat):Int) L.gen q W M d kk.dk hs2 ⟨⟨by omega,by omega⟩,by omega⟩ ⟨by omega,by omega⟩ HK.ok.gen HQ.out hr);rw[← hpa,← hpd] at HP;have HLN:Hid (pd.sec.length=d.sec.length):=jz (by rw[hpd];exact y3 _ _ _ _ _ _);have HLE:Hid (pa=none→L.cnt+1≤10000):=jz (fun e=>by
   rw[hpa] at e
   have:=(JZ e).2
   unfold room at this
   split at this <;> omega)
  clear hb hpa hpd;obtain⟨g9,hg9⟩:=je m.g;rw[← hg9] at c0;have HG9:Hid (m.g=g9):=jz hg9.symm;have hsd:L.side<2:=HK.ok.side;have HSL:Hid (∀ W,Blk W gl 109 (cH g9 h L)→W.rangeAt gl (1+L.side*2) [.int .i64 (aY h L.side),.int .i64 h]):=jz (fun W hk=>nH hk L.side hsd);have HB1:Hid (Blk w1 gl 109 (cH g9 h L)):=jz (by rw[hg9];exact HK1.blk);obtain⟨sd,hsd2⟩:=je L.side;obtain⟨sf,hsf⟩:=je (aY h L.side);obtain⟨ct,hct⟩:=je L.cnt;have HC:Hid (∀ W,Blk W gl 109 (cH g9 h L)→W.cell? ⟨gl,0,none⟩=some (.pointer (some ⟨g9,0,none⟩))∧W.cell? ⟨gl,5,none⟩=some (.int .i64 sd)∧W.cell? ⟨gl,7,none⟩=some (.int .u32 L.gen)∧W.cell? ⟨gl,8,none⟩=some (.int .i64 ct)):=jz (fun W hk=>by rw[hsd2,hct];exact⟨(hk.cell 0).trans rfl,(hk.cell 5).trans rfl,(hk.cell 7).trans rfl,(hk.cell 8).trans rfl⟩);rw[← hsf,← hsd2] at HSL;have HSF:Hid (aY h L.side=sf):=jz hsf.symm;have HCT:Hid (L.cnt=ct):=jz hct.symm;have hct4:(ct:Int)≤10000:=by omega
  have hsd4:(sd:Int)<2:=by omega
  have hsd5:(0:Int)≤sd:=by omega
  have HRR:Hid (((ct+1:Nat):Int)=(ct:Int)+1):=jz (by omega);clear hsd2 hsf hg9 c5 c6 c7 c8 hsd hct;go_enter Tryz.func33,Tryz.ntmps33
  go_upto_region 1 with fail
  rw[← hw1];clear hw1;go_upto_region 5 with fail
  clear c0 c9;obtain⟨gb,hgb⟩:=je w.heap.size;have HEB:Hid (Blk w1 gb 35 (aC q).toArray):=jz (by rw[hgb];exact HE1.out);have HGN:Hid (gb ∉ bJ m):=jz (by rw[hgb];exact HK.dk.notFoot (Nat.le_refl _));rw[← hgb];clear hgb;obtain⟨wS,hwS⟩:=je w1.drew;have HD1:Hid (Below w1.heap.size w1 wS):=jz (by rw[hwS];exact(Below.refl _ _).drew);have HKS:=jz (HK1.keep HD1.out);have HB1S:Hid (Blk wS gl 109 (cH g9 h L)):=jz (HB1.keep HD1.out);have HEBS:Hid (Blk wS gb 35 (aC q).toArray):=jz (HEB.keep HD1.out);have HAP:=jz HK.ap;have HNF:Hid (gb ∉ bJ m):=jz HGN.out;have HPS:=jz (HP.out wS m HKS.out);rw[HG9.out,HSF.out,HCT.out,HRR.out] at HPS;refine kZ (n:=25) (fun W=>(Blk W gl 109 (cH g9 h L)∧Blk W gb 35 (aC q).toArray)) (by rw[← hwS];exact⟨HB1S.out,HEBS.out⟩) (h:=fun hH=>?_);rw[← hwS] at hH ⊢;clear hwS;refine kM 0 (some 14) (.pointer (some ⟨gl,0,none⟩)) (h:=?_);simp only[jq];refine kT 1 (some 15) (.pointer (some ⟨gl,0,none⟩)) (h:=?_);simp only[jq];refine kT 2 (some 16) (.pointer (some ⟨gl,0,none⟩)) (h:=?_);simp only[jq];refine kC 3 (some 17) (v:=.pointer (some ⟨g9,0,none⟩)) (fun _ hX=>(HC.out _ hX.1).1) (h:=?_);simp only[jq];refine kM 4 (some 18) (.pointer (some ⟨gl,0,none⟩)) (h:=?_);simp only[jq];refine kM 5 (some 19) (.pointer (some ⟨gl,0,none⟩)) (h:=?_);simp only[jq];refine kT 6 (some 20) (.pointer (some ⟨gl,0,none⟩)) (h:=?_);simp only[jq];refine kT 7 (some 21) (.pointer (some ⟨gl,5,none⟩)) (h:=?_);simp only[jq];refine kC 8 (some 22) (v:=.int .i64 sd) (fun _ hX=>(HC.out _ hX.1).2.1) (h:=?_);simp only[jq];refine kT 9 (some 23) (.pointer (some ⟨gl,0,none⟩)) (h:=?_);simp only[jq];refine kT 10 (some 24) (.pointer (some ⟨gl,1,none⟩)) (h:=?_);simp only[jq];refine kT 11 (some 25) (.pointer (some ⟨gl,1+sd*2,none⟩)) (h:=?_);simp only[jq];refine kL 12 (some 26) (cs:=[.int .i64 sf,.int .i64 h]) (fun _ hX=>HSL.out _ hX.1) (rfl) (h:=?_);simp only[jq];refine kM 13 (some 27) (.pointer (some ⟨gl,0,none⟩)) (h:=?_);simp only[jq];refine kT 14 (some 28) (.pointer (some ⟨gl,0,none⟩)) (h:=?_);simp only[jq];refine kT 15 (some 29) (.pointer (some ⟨gl,8,none⟩)) (h:=?_);simp only[jq];refine kC 16 (some 30) (v:=.int .i64 ct) (fun _ hX=>(HC.out _ hX.1).2.2.2) (h:=?_);simp only[jq];refine kM 18 (some 32) (.pointer (some ⟨gl,0,none⟩)) (h:=?_);simp only[jq];refine kT 19 (some 33) (.pointer (some ⟨gl,0,none⟩)) (h:=?_);simp only[jq];refine kT 20 (some 34) (.pointer (some ⟨gl,7,none⟩)) (h:=?_);simp only[jq];refine kC 21 (some 35) (v:=.int .u32 L.gen) (fun _ hX=>(HC.out _ hX.1).2.2.1) (h:=?_);simp only[jq];refine kL 22 (some 36) (cs:=aC q) (fun _ hX=>hX.2.range) (hql) (h:=?_);simp only[jq];refine kT 17 (some 31) (.int .i64 (ct+1)) (hy:=fun W hW=>by unfold execOp;go_simp;exact IntWalk.i64_in _ (by omega)) (h:=?_);simp only[jq];refine kF 23 (some 37) (HPS.mono ?_);rintro e w5 ⟨rfl,m5,hk5,ht5⟩;refine⟨_,rfl,⟨(ht5.off HB1S.lt HAP.out.1).trans HB1S.out,(ht5.off HEBS.lt HNF.out).trans HEBS.out⟩,fun hH=>?_⟩;simp only[jq];refine kT 24 (some 5) (cC pa) (h:=?_);simp only[jq];refine kE (h:=?_);have HKX:Hid (LK w5 m5 pd gl h L):=jz ((HK1.keep HD1.out).disk hk5 ht5 HLN.out);have HTX:Hid (LT gl w m w5 m5):=jz ((LT.of_below (aB HW1.out HD1.out)).trans (LT.of_dt ht5));clear hk5 ht5;cases pa with
  | some x=>
   obtain⟨t,u,hv⟩:=cV x;have HN:=jz (rU (some x) w5 m5 pd gl h L HKX.out);have HVE:=jz hv;rw[hv] at HN ⊢;have hne:=dS t u;clear hv;go_wp2_with fail
   refine HN.mono ?_;rintro e w6 ⟨rfl,hk6,ht6⟩;have HK6:=jz hk6;have HT6:=jz (HTX.trans ht6);clear hk6 ht6;go_wp2_with fail
   go_ret;exact⟨by rw[HV.out.1,HVE.out];rfl,m5,by rw[HV.out.2.1,HV.out.2.2];exact HK6.out,HT6.out⟩
  | none=>
   obtain⟨c0,c5,c6,c7,c8,c9⟩:=HKX.cells;have f8:=HKX.blk.frozen 8;have hv:cC none = .nilIface:=rfl;have hnn:∀ w,(binOp .neq 42 .nilIface .nilIface).run Tryz.prog w = .ok (.bool false) w:=fun w=>by kernel_rfl
   rw[hv];clear hv;go_wp2_with fail
   go_ret;refine⟨by rw[HV.out.1];rfl,m5,?_,HTX.set 8 _⟩;rw[HV.out.2.1,HV.out.2.2];exact HKX.set 8 _ (by rfl) ⟨HKX.ok.side,HKX.ok.last,HKX.ok.gen,HLE.out (by simp),HKX.ok.half⟩
theorem GK(w:World)(gl g h:Nat)(L:LogD)(k:KW w gl g h L)(hs:L.side<2)(hh:h≤4096):Calls Tryz.prog 53 #[.pointer (some ⟨gl,0,none⟩)] w fun e w'=>e = .returned (.int .i64 (h-1:Nat))∧Below w.heap.size w w':=by
 have HB:Hid (Blk w gl 109 (cH g h L)):=jz k;have HSL:Hid (∀ W,Blk W gl 109 (cH g h L)→W.rangeAt gl (1+L.side*2) [.int .i64 (aY h L.side),.int .i64 h]):=jz (fun W hk=>nH hk L.side hs);obtain⟨sd,hsd2⟩:=je L.side;obtain⟨sf,hsf⟩:=je (aY h L.side);have HC:Hid (∀ W,Blk W gl 109 (cH g h L)→W.cell? ⟨gl,5,none⟩=some (.int .i64 sd)):=jz (fun W hk=>by rw[hsd2];exact(hk.cell 5).trans rfl);rw[← hsf,← hsd2] at HSL;have hsd4:(sd:Int)<2:=by omega
 have hsd5:(0:Int)≤sd:=by omega
 have HRM:Hid (room (h:Int)=((h-1:Nat):Int)):=jz (by unfold room;split <;> omega);have HP:=jz (fun W=>n7 sf h W ⟨by omega,by omega⟩);rw[HRM.out] at HP;clear hsd2 hsf hs k;go_enter Tryz.func53,Tryz.ntmps53
 go_upto_region 3 with fail
 obtain⟨wS,hwS⟩:=je w.drew;have HD1:Hid (Below w.heap.size w wS):=jz (by rw[hwS];exact(Below.refl _ _).drew);refine kZ (n:=11) (fun W=>Blk W gl 109 (cH g h L)) (by rw[← hwS];exact HB.keep HD1.out) (h:=fun hH=>?_);rw[← hwS] at hH ⊢;clear hwS;refine kM 0 (some 5) (.pointer (some ⟨gl,0,none⟩)) (h:=?_);simp only[jq];refine kM 1 (some 6) (.pointer (some ⟨gl,0,none⟩)) (h:=?_);simp only[jq];refine kT 2 (some 7) (.pointer (some ⟨gl,0,none⟩)) (h:=?_);simp only[jq];refine kT 3 (some 8) (.pointer (some ⟨gl,5,none⟩)) (h:=?_);simp only[jq];refine kC 4 (some 9) (v:=.int .i64 sd) (fun _ hX=>HC.out _ hX) (h:=?_);simp only[jq];refine kT 5 (some 10) (.pointer (some ⟨gl,0,none⟩)) (h:=?_);simp only[jq];refine kT 6 (some 11) (.pointer (some ⟨gl,1,none⟩)) (h:=?_);simp only[jq];refine kT 7 (some 12) (.pointer (some ⟨gl,1+sd*2,none⟩)) (h:=?_);simp only[jq];refine kL 8 (some 13) (cs:=[.int .i64 sf,.int .i64 h]) (fun _ hX=>HSL.out _ hX) (rfl) (h:=?_);simp only[jq];refine kF 9 (some 14) ((HP.out wS).mono ?_);rintro e w5 ⟨rfl,hb5⟩;have HB5:=jz hb5;refine⟨_,rfl,hH.keep hb5,fun hH=>?_⟩;simp only[jq];refine kT 10 (some 2) (.int .i64 (h-1:Nat)) (h:=?_);simp only[jq];refine kE (h:=?_);go_wp2_with fail
 go_ret;exact⟨rfl,aB HD1.out HB5.out⟩
end
section
open Go.RowKit
section
variable {P : Program} {ops : Array Oper} {Q : Exit → Act → World → Prop} {S : World → Prop} {a : Act} {w : World} {listed : Array Bool} {fuel : Nat}
def kTwo(ops:Array Oper)(listed:Array Bool)(i j:Nat):Bool:=
 (Region.ready .any ops listed == [i,j]) && ((ops[i]?).map (fun o=>o.guard.isNone)).any (· == true) && ((ops[j]?).map (fun o=>o.guard.isNone)).any (· == true)
theorem pJ{o:Oper}(h:o.guard=none)(ys:Array Value):Region.wanted o (yielded ops ys)=true:=by
 unfold Region.wanted;rw[h]
theorem kTwo.out{i j:Nat}{oi oj:Oper}(hi:ops[i]? = some oi)(hj:ops[j]? = some oj)(h:kTwo ops listed i j=true):
  Region.ready .any ops listed=[i,j]∧oi.guard=none∧oj.guard=none:=by
 unfold kTwo at h;simp only[Bool.and_eq_true,hi,hj,Option.map_some,Option.any_some,beq_iff_eq,Option.isNone_iff_eq_none] at h;exact⟨h.1.1,h.1.2,h.2⟩
theorem r9{ty:TypeId}{zs:Array Value}(hz:∀ w,(zeroValue ty).run P w = .ok (.agg zs) w){o:Oper}(hop:o.op = .alloc ty)(e:Operand→Value)(w:World):
  (execOp e o).run P w = .ok (.value (.pointer (some ⟨w.heap.size,0,none⟩))) (w.alloc (.cells zs ty)):=by
 unfold execOp;simp only[hop];unfold Instr.alloc newVar newRow;simp only[Sem.run_bind,hz,Result.andThen_ok];rfl
theorem kCA(i j:Nat)(di dj:Option Tmp){oi oj:Oper}{f:FuncId}{args zs:Array Value}{ty:TypeId}
  (hz:∀ w,(zeroValue ty).run P w = .ok (.agg zs) w)
  (h1:Calls P f args w fun e w'=>∃ v,e = .returned v∧S w'∧(S w'→wpAnyH P .any ops Q S fuel (listed.setIfInBounds i true) (a.put di v) w'))
  (hS:S (w.alloc (.cells zs ty)))
  (h2:wpAnyH P .any ops Q S fuel (listed.setIfInBounds j true) (a.put dj (.pointer (some ⟨w.heap.size,0,none⟩))) (w.alloc (.cells zs ty)))
  (hi:ops[i]? = some oi:=by rfl) (hj:ops[j]? = some oj:=by rfl) (hdi:oi.dst=di:=by rfl) (hdj:oj.dst=dj:=by rfl) (hop:oj.op = .alloc ty:=by rfl) (hc:kTwo ops listed i j=true:=by kernel_rfl)
  (hent:∀ w,(execOp a.eval oi).run P w = .ok (.enter f args) w:=by intro w;unfold execOp;go_simp):wpAnyH P .any ops Q S (fuel+1) listed a w:=by
 subst hdi hdj;obtain⟨r0,gi,gj⟩:=kTwo.out hi hj hc;refine wpAnyH_ready r0 (by simp) (AllReadyH.cons hi (fun K hK=>?_) (AllReadyH.cons hj (fun K hK=>?_) jN))
 ·rw[if_pos (pJ gi _)];unfold Oper.wp;rw[hent,Oper.upon_enter];refine h1.mono ?_;rintro e w' ⟨v,rfl,hS1,hk⟩;exact hK.out _ _ hS1 hk
 ·rw[if_pos (pJ gj _)];unfold Oper.wp;rw[r9 hz hop,Oper.upon_value];exact hK.out _ _ hS (fun _=>h2)
theorem kA(i:Nat)(dst:Option Tmp){zs:Array Value}{ty:TypeId}(hz:∀ w,(zeroValue ty).run P w = .ok (.agg zs) w)(hS:S (w.alloc (.cells zs ty)))
  (h:wpAnyH P .any ops Q S fuel (listed.setIfInBounds i true) (a.put dst (.pointer (some ⟨w.heap.size,0,none⟩))) (w.alloc (.cells zs ty)))
  {o:Oper} (ho:ops[i]? = some o:=by rfl) (hdst:o.dst=dst:=by rfl) (hop:o.op = .alloc ty:=by rfl) (hc:kOne ops listed a i=true:=by kernel_rfl):wpAnyH P .any ops Q S (fuel+1) listed a w:=by
 subst hdst;have k:=kOne.out ho hc;refine wpAnyH_ready k.1 (by simp) (AllReadyH.cons ho (fun K hK=>?_) jN);rw[if_pos k.2];unfold Oper.wp;rw[r9 hz hop,Oper.upon_value];exact hK.out _ _ hS (fun _=>h)
end
end
end Go.Proofs.YtombncedfleljaaGreat
