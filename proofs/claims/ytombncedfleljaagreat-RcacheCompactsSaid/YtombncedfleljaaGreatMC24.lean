import Derived.Test.YtombncedfleljaaGreatMC23
set_option linter.unusedSimpArgs false
set_option maxRecDepth 100000
set_option maxHeartbeats 40000000
namespace Go.Proofs.YtombncedfleljaaGreat
section
open Go.RowKit
attribute [local irreducible] wpQuiet wpAnyH
structure LogD where
 side:Nat
 last:Nat
 gen:Nat
 cnt:Nat
 brk:Bool
def cH(g h:Nat)(L:LogD):Array Value:=#[.pointer (some ⟨g,0,none⟩),.int .i64 0,.int .i64 h,.int .i64 h,.int .i64 h,.int .i64 L.side,.int .u32 L.last,.int .u32 L.gen,.int .i64 L.cnt,.bool L.brk]
structure LogOk(d:DiskD)(h:Nat)(L:LogD):Prop where
 side:L.side<2
 last:L.last<4294967296
 gen:L.gen<4294967296
 cnt:L.cnt≤10000
 half:h=d.sec.length/2
structure LK(w:World)(m:DiskM)(d:DiskD)(gl h:Nat)(L:LogD):Prop where
 dk:DK w m d
 blk:Blk w gl 109 (cH m.g h L)
 ap:Apart m gl
 ok:LogOk d h L
structure LT(gl:Nat)(w:World)(m:DiskM)(w':World)(m':DiskM):Prop where
 g:m'.g=m.g
 fo:Fo (gl :: bJ m) w w'
 sub:∀ k∈bJ m',k∈bJ m∨w.heap.size≤k
 cv:∀ k v,m'.cv k=some v→m.cv k=some v∨∀ b,v.ownBlock=some b→w.heap.size≤b
section
variable {w w' w'' : World} {m m' m'' : DiskM} {d d' : DiskD} {gl h : Nat} {L L' : LogD}
theorem Fo.wide{F G:List Nat}(h:Fo F w w')(hs:∀ x∈F,x∈G):Fo G w w':=⟨h.os,h.tape,h.output,h.size,fun k hk hn=>h.block k hk (fun hm=>hn (hs k hm))⟩
theorem LT.of_dt(h:DT w m w' m'):LT gl w m w' m':=⟨h.g,h.fo.wide (fun _ hx=>List.mem_cons_of_mem _ hx),h.sub,h.cv⟩
theorem LT.of_below(h:Below w.heap.size w w'):LT gl w m w' m:=LT.of_dt (DT.of_below h)
theorem LT.trans(h:LT gl w m w' m')(k:LT gl w' m' w'' m''):LT gl w m w'' m'':=
 ⟨k.g.trans h.g,h.fo.trans k.fo (fun x hx=>by
  rcases List.mem_cons.1 hx with rfl|hx
  ·exact .inl (List.mem_cons_self ..)
  ·exact(h.sub x hx).imp (fun h=>List.mem_cons_of_mem _ h) id),fun x hx=>by
  rcases k.sub x hx with h1|h1
  ·exact h.sub x h1
  ·exact .inr (Nat.le_trans h.fo.size h1),fun x v hx=>by
  rcases k.cv x v hx with h1|h1
  ·exact h.cv x v h1
  ·exact .inr (fun b e=>Nat.le_trans h.fo.size (h1 b e))⟩
theorem LT.set(h:LT gl w m w' m')(i:Nat)(u:Value):LT gl w m (w'.setCell ⟨gl,i,none⟩ u) m':=⟨h.g,h.fo.set gl i (List.mem_cons_self ..) u,h.sub,h.cv⟩
theorem LT.below{B:Nat}(h:LT gl w m w' m')(hF:∀ k∈bJ m,B≤k)(hg:B≤gl)(hB:B≤w.heap.size):Below B w w':=h.fo.below (fun k hk=>(List.mem_cons.1 hk).elim (fun e=>by omega) (hF k)) hB
theorem LT.le{B:Nat}(h:LT gl w m w' m')(hF:∀ k∈bJ m,B≤k)(hB:B≤w.heap.size):∀ k∈bJ m',B≤k:=fun k hk=>by
 rcases h.sub k hk with h1|h1
 ·exact hF k h1
 ·omega
theorem LK.keep(k:LK w m d gl h L)(hb:Below w.heap.size w w'):LK w' m d gl h L:=⟨k.dk.keep hb,k.blk.keep hb,k.ap,k.ok⟩
theorem LogOk.len(k:LogOk d h L)(hl:d'.sec.length=d.sec.length):LogOk d' h L:=⟨k.side,k.last,k.gen,k.cnt,by rw[hl];exact k.half⟩
theorem LK.disk(k:LK w m d gl h L)(hk:DK w' m' d')(ht:DT w m w' m')(hl:d'.sec.length=d.sec.length):LK w' m' d' gl h L:=
 ⟨hk,by rw[ht.g];exact(ht.off k.blk.lt k.ap.1).trans k.blk,k.ap.next k.blk.lt ht,k.ok.len hl⟩
theorem LK.set(k:LK w m d gl h L)(i:Nat)(u:Value)(hc:(cH m.g h L).setIfInBounds i u=cH m.g h L')(ho:LogOk d h L'):LK (w.setCell ⟨gl,i,none⟩ u) m d gl h L':=
 have hb:Below gl w (w.setCell ⟨gl,i,none⟩ u):=(Below.refl gl w).setCell (p:=⟨gl,i,none⟩) (Nat.le_refl _) _
 ⟨k.dk.offK (fun j hj=>Below.heap_setCell _ ⟨gl,i,none⟩ _ j hj) hb.size k.ap,by rw[← hc];exact k.blk.set_ i u,k.ap,ho⟩
theorem LK.cells(k:LK w m d gl h L):w.cell? ⟨gl,0,none⟩=some (.pointer (some ⟨m.g,0,none⟩))∧w.cell? ⟨gl,5,none⟩=some (.int .i64 L.side)∧w.cell? ⟨gl,6,none⟩=some (.int .u32 L.last)∧w.cell? ⟨gl,7,none⟩=some (.int .u32 L.gen)∧w.cell? ⟨gl,8,none⟩=some (.int .i64 L.cnt)∧w.cell? ⟨gl,9,none⟩=some (.bool L.brk):=
 ⟨(k.blk.cell 0).trans rfl,(k.blk.cell 5).trans rfl,(k.blk.cell 6).trans rfl,(k.blk.cell 7).trans rfl,(k.blk.cell 8).trans rfl,(k.blk.cell 9).trans rfl⟩
end
def aY(h s:Nat):Nat:=if s=0 then 0 else h
theorem nH{w:World}{gl g h:Nat}{L:LogD}(k:Blk w gl 109 (cH g h L))(s:Nat)(hs:s<2):w.rangeAt gl (1+s*2) [.int .i64 (aY h s),.int .i64 h]:=by
 intro j u hj;rw[k.cell];have hs2:s=0∨s=1:=by omega
 rcases hs2 with rfl|rfl
 all_goals
  match j with
  | 0=>simpa [cH,aY] using hj
  | 1=>simpa [cH,aY] using hj
  | j+2=>simp at hj
theorem uH(w:World)(m:DiskM)(d:DiskD)(h:DK w m d):
  Calls Tryz.prog 63 #[.pointer (some ⟨m.g,0,none⟩)] w fun e w'=>e = .returned (.int .i64 d.sec.length)∧w'=w:=by
 obtain⟨A,cap,hv,_⟩:=Sn.own h.sec;have hc:=h.blk.cell 0;simp only[eG,List.getElem?_toArray,List.getElem?_cons_zero,hv] at hc;go_enter Tryz.func63,Tryz.ntmps63
 go_wp2_with fail
 go_ret;exact⟨rfl,rfl⟩
theorem uI(s:List Int)(w:World)(hl:s.length=64)(hb:Bys s):
  Calls Tryz.prog 91 #[.agg (u8s s).toArray] w fun e w'=>e = .returned (.int .u32 (beN ((s.drop 60).take 4)))∧Below w.heap.size w w':=by
 obtain⟨w1,hw1⟩:=je (w.alloc (.cells (u8s s).toArray 144));have hB1:Blk w1 w.heap.size 144 (u8s s).toArray:=by rw[hw1];exact Blk.new _ _ _
 have hb1:Below w.heap.size w w1:=by rw[hw1];exact aN _ _
 have hd:(s.drop 60).length=4:=by rw[List.length_drop,hl]
 have HSN:Hid (Sn w1 1 (.slice (some ⟨w.heap.size,60,none⟩) 4 4) (s.drop 60).length (u8s (s.drop 60))):=jz (by
  have:=Sn.of_blk hB1 60 4 4 (by omega) (by omega)
  rw[List.take_of_length_le (by omega)] at this
  rw[hd];exact this)
 have HBY:Hid (Bys (s.drop 60)):=jz (fun c hc=>hb c (List.mem_of_mem_drop hc));have HW1:=jz hb1;have HD:=jz hd;have HLT:Hid (beN ((s.drop 60).take 4)<4294967296):=jz (by
  have:=jO ((s.drop 60).take 4) (fun c hc=>HBY.out c (List.mem_of_mem_take hc))
  rw[List.length_take,hd] at this
  exact this)
 clear hB1 hb1 hd hl hb;go_enter Tryz.func91,Tryz.ntmps91
 go_upto_region 1 with fail
 rw[← hw1];clear hw1;go_wp2_with fail
 refine(xZ _ (s.drop 60) w1 HSN.out (by rw[HD.out];omega)).mono ?_;rintro e w2 ⟨r,v,rfl,hR,hr,hb2⟩;have HR:=jz hR;have HB2:=jz (aB HW1.out hb2);have HRW:Hid (w.heap.size≤r):=jz (by have:=HW1.size;omega);clear hR hr hb2;go_wp2_with fail
 refine(fT r v (s.drop 60) false 4 w2 HR.out HBY.out (by rw[HD.out];omega) (by omega) (by omega)).mono ?_;rintro e w3 ⟨ho3,⟨_,_,v3,rfl,hR3⟩|⟨hbad,_,_⟩⟩
 ·have HB3:Hid (Below w.heap.size w w3):=jz (HB2.trans (ho3.below HRW.out HB2.size));obtain⟨X,hX⟩:=je (beN ((s.drop 60).take 4));have hlt:X<4294967296:=by rw[hX];exact HLT.out
  rw[← hX];have HX:=jz hX;have hi:(X:Int)≤4294967295:=by omega
  have h0:(0:Int)≤X:=by omega
  clear hX ho3 hR3;go_wp2_with fail
  go_ret;exact⟨by rw[← HX.out];rfl,HB3.out⟩
 ·rcases hbad with h|h
  ·cases h
  ·rw[HD.out] at h;omega
def iT(L:LogD)(c:Int):LogD:=if c=11∨c=12 then { L with brk:=true } else L
theorem rU(x:Ans)(w:World)(m:DiskM)(d:DiskD)(gl h:Nat)(L:LogD)(k:LK w m d gl h L):
  Calls Tryz.prog 56 #[.pointer (some ⟨gl,0,none⟩),cC x] w fun e w'=>e = .returned (cC x)∧LK w' m d gl h (iT L (cQ x))∧LT gl w m w' m:=by
 obtain⟨v,hv⟩:=je (cC x);have HC:=jz (rD x w);rw[← hv] at HC ⊢;obtain⟨c,hc⟩:=je (cQ x);rw[← hc] at HC ⊢;have HK:=jz k;clear hv hc k;rcases jb (c == 11) with t1|t1
 ·have HN:Hid (iT L c={ L with brk:=true }):=jz (by unfold iT;rw[if_pos (.inl (by simpa using t1))]);go_enter Tryz.func56,Tryz.ntmps56
  go_wp2_with fail
  refine HC.mono ?_;rintro e w2 ⟨rfl,hb2⟩;have HK2:=jz (HK.keep hb2);have HT2:Hid (LT gl w m w2 m):=jz (LT.of_below hb2);obtain⟨c0,c5,c6,c7,c8,c9⟩:=HK2.cells;have f9:=HK2.blk.frozen 9;clear hb2;go_wp2_with fail
  go_ret;exact⟨rfl,by rw[HN.out];exact HK2.set 9 _ rfl ⟨HK2.ok.side,HK2.ok.last,HK2.ok.gen,HK2.ok.cnt,HK2.ok.half⟩,HT2.set 9 _⟩
 ·rcases jb (c == 12) with t2|t2
  ·have HN:Hid (iT L c={ L with brk:=true }):=jz (by unfold iT;rw[if_pos (.inr (by simpa using t2))]);go_enter Tryz.func56,Tryz.ntmps56
   go_wp2_with fail
   refine HC.mono ?_;rintro e w2 ⟨rfl,hb2⟩;have HK2:=jz (HK.keep hb2);have HT2:Hid (LT gl w m w2 m):=jz (LT.of_below hb2);obtain⟨c0,c5,c6,c7,c8,c9⟩:=HK2.cells;have f9:=HK2.blk.frozen 9;clear hb2;go_wp2_with fail
   go_ret;exact⟨rfl,by rw[HN.out];exact HK2.set 9 _ rfl ⟨HK2.ok.side,HK2.ok.last,HK2.ok.gen,HK2.ok.cnt,HK2.ok.half⟩,HT2.set 9 _⟩
  ·have HN:Hid (iT L c=L):=jz (by unfold iT;rw[if_neg (fun h=>h.elim (fun e=>by simp[e] at t1) (fun e=>by simp[e] at t2))]);go_enter Tryz.func56,Tryz.ntmps56
   go_wp2_with fail
   refine HC.mono ?_;rintro e w2 ⟨rfl,hb2⟩;have HK2:=jz (HK.keep hb2);have HT2:Hid (LT gl w m w2 m):=jz (LT.of_below hb2);clear hb2;go_wp2_with fail
   go_ret;exact⟨rfl,by rw[HN.out];exact HK2.out,HT2.out⟩
def KW(w:World)(gl:Nat)(g h:Nat)(L:LogD):Prop:=Blk w gl 109 (cH g h L)
theorem ES(w:World)(gl g h:Nat)(L:LogD)(k:KW w gl g h L):Calls Tryz.prog 51 #[.pointer (some ⟨gl,0,none⟩)] w fun e w'=>e = .returned (.int .i64 L.cnt)∧w'=w:=by
 have c8:w.cell? ⟨gl,8,none⟩=some (.int .i64 L.cnt):=(Blk.cell k 8).trans rfl;go_enter Tryz.func51,Tryz.ntmps51
 go_wp2_with fail
 go_ret;exact⟨rfl,rfl⟩
theorem AP(w:World)(gl g h:Nat)(L:LogD)(k:KW w gl g h L):Calls Tryz.prog 29 #[.pointer (some ⟨gl,0,none⟩)] w fun e w'=>e = .returned (.bool L.brk)∧w'=w:=by
 have c8:w.cell? ⟨gl,9,none⟩=some (.bool L.brk):=(Blk.cell k 9).trans rfl;go_enter Tryz.func29,Tryz.ntmps29
 go_wp2_with fail
 go_ret;exact⟨rfl,rfl⟩
end
section
open Go.RowKit
attribute [local irreducible] wpQuiet wpAnyH
def bW(s:List Int):Nat:=beN ((s.drop 60).take 4)
def bV(d:DiskD):Nat→Nat
 | 0=>0
 | k+1=>max (bV d k) (bW (rdS d k))
theorem lO{s:List Int}(h:Sec s):bW s<4294967296:=by
 have:=jO ((s.drop 60).take 4) (fun c hc=>h.2 c (List.mem_of_mem_drop (List.mem_of_mem_take hc)));rw[List.length_take,List.length_drop,h.1] at this;exact this
theorem rV{d:DiskD}(h:DOk d):∀ k,bV d k<4294967296
 | 0=>by unfold bV;omega
 | k+1=>by
  have h1:=rV h k;have h2:=lO (qB h k);unfold bV;omega
structure LJ(d:DiskD)(g n:Nat)(w:World)(a':Act)(w':World):Prop where
 ex:∃(k x:Nat) (u6 u7 u8 u9 u10 u11 u12 u13 u14 u15 u16 u17 u18 u19 u20 u21 u22 u23 u24 u25 u26 u27 u28 u29 u30:Value),a'={ tmps:=#[.pointer (some ⟨g,0,none⟩),undef,.int .u32 0,.nilIface,.int .u32 (x:Int),.int .i64 (k:Int),u6,u7,u8,u9,u10,u11,u12,u13,u14,u15,u16,u17,u18,u19,u20,u21,u22,u23,u24,u25,u26,u27,u28,u29,u30],defers:=[] }∧k≤n∧Hid ((x:Int)=(bV d k:Nat))∧Hid (Below w.heap.size w w')
theorem pY(w:World)(m:DiskM)(d:DiskD)(h:DK w m d)(hd:d.down=false):
  Calls Tryz.prog 66 #[.pointer (some ⟨m.g,0,none⟩)] w fun e w'=>e = .returned (.tuple #[.int .u32 (bV d d.sec.length),.nilIface])∧Below w.heap.size w w':=by
 have HK:=jz h;have hn:(d.sec.length:Int)≤4096:=by have:=h.ok.few;omega
 have HSZ:=jz (fun W (hb:Below w.heap.size w W)=>uH W m d (HK.keep hb));have HRD:=jz (fun W (hb:Below w.heap.size w W) (a:Int) (ha:aK a)=>tV a W m d (HK.keep hb) ha);have HE:Hid (∀ k:Nat,k<d.sec.length→rdE d k = .nilIface):=jz (fun k hk=>by unfold rdE eD;rw[hd];simp;omega);obtain⟨g,hg⟩:=je m.g;rw[← hg] at HSZ HRD ⊢;obtain⟨n,hnn⟩:=je d.sec.length;rw[← hnn] at HSZ HE hn ⊢;have HSEC:Hid (∀ k:Nat,Sec (rdS d k)):=jz (fun k=>qB HK.ok k);have HLT:Hid (∀ k,bV d k<4294967296):=jz (rV HK.ok);have hzl:z64.size=64:=cN;clear h hd hg hnn;go_enter Tryz.func66,Tryz.ntmps66
 go_wp2_with fail
 refine wp_scope_jumps 0 (LJ d g n w) (fun a' _=>n-(intOf (a'.tmps.getD 5 undef)).toNat) rfl ?_ ?_
 ·have HB:Hid (Below w.heap.size w w):=jz (Below.refl _ _);have HX:Hid ((0:Int)=(bV d 0:Nat)):=jz rfl;go_wp2_with fail
  go_step3
  go_wp2_with fail
  refine(HSZ.out w HB.out).mono ?_;rintro e w2 ⟨rfl,hw2⟩;rw[hw2];clear hw2 w2;rcases Nat.lt_or_ge 0 n with hlt|hge
  ·have hki:((0:Int):Int)<n:=by omega
   have HR:=HRD.out w HB.out (0:Int) ⟨by omega,by omega⟩;have hsec:=HSEC.out 0;have HRE:=HE.out 0 hlt;obtain⟨s,hs⟩:=je (rdS d (0:Int));have HS:Hid (s=rdS d (0:Nat)):=jz hs;have hss:Sec s:=by rw[HS.out];exact hsec
   have HRE2:rdE d (0:Int) = .nilIface:=HRE;rw[HRE2,← hs] at HR;have HS3:Hid (64=(u8s s).toArray.size∧(u8s s).toArray.all (·.oneCell')=true∧(Tryz.prog.info? 144).map (·.size)=some (u8s s).toArray.size):=jz ⟨by simp[aG hss],cS s,by simp only[js,aG hss];kernel_rfl⟩;have HSS:=jz hss;have HRR:=jz HR;obtain⟨T,hT⟩:=je (bW s);have HTL:Hid (T<4294967296):=jz (by rw[hT];exact lO hss);have HTG:=jz (fun W=>uI s W HSS.out.1 HSS.out.2);have HT:Hid (T=bW s):=jz hT;have hTe:beN ((s.drop 60).take 4)=T:=hT.symm;rw[hTe] at HTG;clear hs hss hsec HRE HRE2 HR hT hTe;go_upto_region 5 with (first
    | (go_at_call 90;refine HRR.mono ?_;rintro e w3 ⟨rfl,hb3⟩)
    | (refine al 144 z64 rfl rfl cK ?_)
    | (refine cR 144 (.tmp 6) (.tmp 17) rfl rfl rfl rfl HS3.out.2.2 (by rw[hzl];exact HS3.out.1) HS3.out.2.1 ?_;intro w4 hB4 hb4 hs4))
   obtain⟨gs,hgs⟩:=je w3.heap.size;have HBS:Hid (Blk w4 gs 144 (u8s s).toArray):=jz (by rw[hgs];exact hB4);have HB4:Hid (Below w.heap.size w w4):=jz (aB (aB HB.out hb3) hb4);rw[← hgs];have HRG:Hid (w4.rangeAt gs 0 (u8s s)):=jz (by have h:=HBS.range;rwa [jt] at h);have hinc:IntKind.i64.wrap ((0:Int)+1)=((0+1:Nat):Int):=by rw[IntWalk.i64_in _ (by omega)];omega
   clear hB4 hb4 hs4 hb3 hgs HRR;have hiw:(0:Int)+1≤9223372036854775807:=by omega
   have hTi:(T:Int)≤4294967295:=by have:=HTL.out;omega
   go_upto_region 9 with (first
    | (refine ld 144 _ rfl rfl rfl HRG.out Tryz.underlying144 rfl (by simpa using HS3.out.2.2) ?_)
    | (go_at_call 91;refine(HTG.out w4).mono ?_;rintro e w5 ⟨rfl,hb5⟩))
   have HB5:Hid (Below w.heap.size w w5):=jz (aB HB4.out hb5);clear hb5;rcases Int.lt_or_le (0:Int) (T:Int) with hgt|hle
   ·have HX1:Hid ((T:Int)=(bV d (0+1):Nat)):=jz (by
     have h2:bW (rdS d ((0:Nat):Int))=T:=by rw[HT.out,HS.out]
     have h1:bV d (0+1)=max (bV d 0) T:=by rw[← h2];rfl
     rw[h1]
     have:=HX.out
     omega)
    go_wp2_with fail
    go_step3
    refine⟨rfl,⟨0+1,(bV d (0+1)),_,_,_,_,_,_,_,_,_,_,_,_,_,_,_,_,_,_,_,_,_,_,_,_,_,by rw[← HX1.out];rfl,by omega,jz rfl,HB5⟩⟩
   ·have HX1:Hid ((0:Int)=(bV d (0+1):Nat)):=jz (by
     have h2:bW (rdS d ((0:Nat):Int))=T:=by rw[HT.out,HS.out]
     have h1:bV d (0+1)=max (bV d 0) T:=by rw[← h2];rfl
     rw[h1]
     have:=HX.out
     omega)
    go_wp2_with fail
    go_step3
    refine⟨rfl,⟨0+1,(bV d (0+1)),_,_,_,_,_,_,_,_,_,_,_,_,_,_,_,_,_,_,_,_,_,_,_,_,_,by rw[← HX1.out];rfl,by omega,jz rfl,HB5⟩⟩
  ·have hki:(n:Int)≤(0:Int):=by omega
   go_wp2_with fail
   simp only[Exit.jump];refine bodyPost_ret (results_tmp2 rfl _ _ _) rfl ?_;have hkn:n=0:=by omega
   exact⟨by rw[hkn,← HX.out];rfl,HB.out⟩
 ·rintro a' wr ⟨k,x,u6,u7,u8,u9,u10,u11,u12,u13,u14,u15,u16,u17,u18,u19,u20,u21,u22,u23,u24,u25,u26,u27,u28,u29,u30,rfl,hk,HX,HB⟩;have hx1:(x:Int)≤4294967295:=by have:=HX.out;have:=HLT.out k;omega
  have hk0:(0:Int)≤k:=by omega
  have hk1:(k:Int)≤n:=by omega
  go_wp2_with fail
  refine(HSZ.out wr HB.out).mono ?_;rintro e w2 ⟨rfl,hw2⟩;rw[hw2];clear hw2 w2;rcases Nat.lt_or_ge k n with hlt|hge
  ·have hki:((k:Int):Int)<n:=by omega
   have HR:=HRD.out wr HB.out (k:Int) ⟨by omega,by omega⟩;have hsec:=HSEC.out k;have HRE:=HE.out k hlt;obtain⟨s,hs⟩:=je (rdS d (k:Int));have HS:Hid (s=rdS d (k:Nat)):=jz hs;have hss:Sec s:=by rw[HS.out];exact hsec
   have HRE2:rdE d (k:Int) = .nilIface:=HRE;rw[HRE2,← hs] at HR;have HS3:Hid (64=(u8s s).toArray.size∧(u8s s).toArray.all (·.oneCell')=true∧(Tryz.prog.info? 144).map (·.size)=some (u8s s).toArray.size):=jz ⟨by simp[aG hss],cS s,by simp only[js,aG hss];kernel_rfl⟩;have HSS:=jz hss;have HRR:=jz HR;obtain⟨T,hT⟩:=je (bW s);have HTL:Hid (T<4294967296):=jz (by rw[hT];exact lO hss);have HTG:=jz (fun W=>uI s W HSS.out.1 HSS.out.2);have HT:Hid (T=bW s):=jz hT;have hTe:beN ((s.drop 60).take 4)=T:=hT.symm;rw[hTe] at HTG;clear hs hss hsec HRE HRE2 HR hT hTe;go_upto_region 5 with (first
    | (go_at_call 90;refine HRR.mono ?_;rintro e w3 ⟨rfl,hb3⟩)
    | (refine al 144 z64 rfl rfl cK ?_)
    | (refine cR 144 (.tmp 6) (.tmp 17) rfl rfl rfl rfl HS3.out.2.2 (by rw[hzl];exact HS3.out.1) HS3.out.2.1 ?_;intro w4 hB4 hb4 hs4))
   obtain⟨gs,hgs⟩:=je w3.heap.size;have HBS:Hid (Blk w4 gs 144 (u8s s).toArray):=jz (by rw[hgs];exact hB4);have HB4:Hid (Below w.heap.size w w4):=jz (aB (aB HB.out hb3) hb4);rw[← hgs];have HRG:Hid (w4.rangeAt gs 0 (u8s s)):=jz (by have h:=HBS.range;rwa [jt] at h);have hinc:IntKind.i64.wrap ((k:Int)+1)=((k+1:Nat):Int):=by rw[IntWalk.i64_in _ (by omega)];omega
   clear hB4 hb4 hs4 hb3 hgs HRR;have hiw:(k:Int)+1≤9223372036854775807:=by omega
   have hTi:(T:Int)≤4294967295:=by have:=HTL.out;omega
   go_upto_region 9 with (first
    | (refine ld 144 _ rfl rfl rfl HRG.out Tryz.underlying144 rfl (by simpa using HS3.out.2.2) ?_)
    | (go_at_call 91;refine(HTG.out w4).mono ?_;rintro e w5 ⟨rfl,hb5⟩))
   have HB5:Hid (Below w.heap.size w w5):=jz (aB HB4.out hb5);clear hb5;rcases Int.lt_or_le (x:Int) (T:Int) with hgt|hle
   ·have HX1:Hid ((T:Int)=(bV d (k+1):Nat)):=jz (by
     have h2:bW (rdS d ((k:Nat):Int))=T:=by rw[HT.out,HS.out]
     have h1:bV d (k+1)=max (bV d k) T:=by rw[← h2];rfl
     rw[h1]
     have:=HX.out
     omega)
    go_wp2_with fail
    go_step3
    refine⟨rfl,⟨⟨k+1,(bV d (k+1)),_,_,_,_,_,_,_,_,_,_,_,_,_,_,_,_,_,_,_,_,_,_,_,_,_,by rw[← HX1.out];rfl,by omega,jz rfl,HB5⟩⟩,?_⟩;simp[intOf];omega
   ·have HX1:Hid ((x:Int)=(bV d (k+1):Nat)):=jz (by
     have h2:bW (rdS d ((k:Nat):Int))=T:=by rw[HT.out,HS.out]
     have h1:bV d (k+1)=max (bV d k) T:=by rw[← h2];rfl
     rw[h1]
     have:=HX.out
     omega)
    have t9:decide (x<T)=false:=by simp only[decide_eq_false_iff_not];omega
    clear hle;go_wp2_with fail
    go_step3
    refine⟨rfl,⟨⟨k+1,(bV d (k+1)),_,_,_,_,_,_,_,_,_,_,_,_,_,_,_,_,_,_,_,_,_,_,_,_,_,by rw[← HX1.out];rfl,by omega,jz rfl,HB5⟩⟩,?_⟩;simp[intOf];omega
  ·have hki:(n:Int)≤(k:Int):=by omega
   go_wp2_with fail
   simp only[Exit.jump];refine bodyPost_ret (results_tmp2 rfl _ _ _) rfl ?_;have hkn:n=k:=by omega
   exact⟨by rw[hkn,← HX.out];rfl,HB.out⟩
structure RLog where
 has:Bool
 side:Nat
 gen:Nat
 last:Nat
 es:List aW
 brk:Bool
def rlC(v:Value)(L:RLog):Array Value:=#[.bool L.has,.int .i64 L.side,.int .u32 L.gen,.int .u32 L.last,v,.bool L.brk]
def rlZ:Array Value:=#[.bool false,.int .i64 0,.int .u32 0,.int .u32 0,.slice none 0 0,.bool false]
def rl0:RLog:=⟨false,0,0,0,[],false⟩
theorem MA:rlC (.slice none 0 0) rl0=rlZ:=rfl
theorem jY:∀ w,(zeroValue 61).run Tryz.prog w = .ok (.agg rlZ) w:=fun w=>by unfold rlZ;kernel_rfl
theorem nI:Tryz.prog.built 61 []=some rlZ:=by unfold rlZ;kernel_rfl
theorem JY(t:Nat):Tryz.prog.built 61 [(0,.bool true),(3,.int .u32 t)]=some (rlC (.slice none 0 0) ⟨true,0,0,t,[],false⟩):=by unfold rlC;kernel_rfl
theorem rlI:(Tryz.prog.info? 61).map (·.size)=some 6:=by kernel_rfl
structure RLK(w:World)(v:Value)(L:RLog):Prop where
 sn:Sn w 33 v L.es.length (L.es.flatMap aC)
 ok:∀ q∈L.es,EntOk q
 ln:L.es.length≤10000
 side:L.side<2
 gen:L.gen<4294967296
 last:L.last<4294967296
 lt:∀ b,v.ownBlock=some b→b<w.heap.size
theorem RLK.keep{w w':World}{v:Value}{L:RLog}(h:RLK w v L)(hb:Below w.heap.size w w'):RLK w' v L:=⟨h.sn.below hb,h.ok,h.ln,h.side,h.gen,h.last,fun b e=>Nat.lt_of_lt_of_le (h.lt b e) hb.size⟩
theorem RLK.zero(w:World):RLK w (.slice none 0 0) rl0:=⟨⟨none,0,rfl,Nat.le_refl _,rfl,fun h=>absurd h (by simp[rl0])⟩,(fun q hq=>by cases hq),Nat.zero_le _,by decide,by decide,by decide,fun b e=>by cases e⟩
theorem dB{w:World}{v:Value}{L:RLog}(h:RLK w v L):(rlC v L).all (·.oneCell')=true:=by
 obtain⟨_,_,e1,_⟩:=h.sn;refine all_oneCell_toArray (cs:=[.bool L.has,.int .i64 L.side,.int .u32 L.gen,.int .u32 L.last,v,.bool L.brk]) fun u hu=>?_
 simp only[List.mem_cons,List.not_mem_nil,or_false] at hu;rcases hu with rfl|rfl|rfl|rfl|rfl|rfl
 ·rfl
 ·rfl
 ·rfl
 ·rfl
 ·rw[e1];rfl
 ·rfl
theorem aT{P:Program}{w:World}{fn:Func}{p q x:Tmp}{ty ty2:TypeId}(h:fn.results=#[.cell p ty,.cell q ty2,.tmp x])(tmps:Array Value){b off b2 off2:Nat}{cs cs2:List Value}{d d2:TypeDesc}(hp:tmps.getD p undef = .pointer (some ⟨b,off,none⟩))(hc:w.rangeAt b off cs)
  (hu:P.underlying ty=some d) (hd:d.isRow=true) (hi:(P.info? ty).map (·.size)=some cs.length) (hq:tmps.getD q undef = .pointer (some ⟨b2,off2,none⟩)) (hc2:w.rangeAt b2 off2 cs2) (hu2:P.underlying ty2=some d2) (hd2:d2.isRow=true) (hi2:(P.info? ty2).map (·.size)=some cs2.length):
  (results fn tmps).run P w = .ok (.tuple #[.agg cs.toArray,.agg cs2.toArray,tmps.getD x undef]) w:=by
 have h1:tmps[p]?.getD undef = .pointer (some ⟨b,off,none⟩):=by simpa using hp
 have h2:tmps[q]?.getD undef = .pointer (some ⟨b2,off2,none⟩):=by simpa using hq
 simp[results,h,h1,h2,asAddr,Sem.run_bind,Result.andThen,run_loadVar_mid w b off ty cs d hc hu hd hi,run_loadVar_mid w b2 off2 ty2 cs2 d2 hc2 hu2 hd2 hi2]
structure R2(B:Nat)(w W:World)(gA gB:Nat)(tA tB:TypeId)(xA xB:Array Value):Prop where
 a:Blk W gA tA xA
 b:Blk W gB tB xB
 o:∀ k,k<w.heap.size→k≠gA→k≠gB→W.heap[k]? = w.heap[k]?
 bel:Below B w W
 ne:gA≠gB
 lo:B≤gA∧B≤gB
section
variable {B : Nat} {w W W' : World} {gA gB g : Nat} {tA tB t : TypeId} {xA xB cs : Array Value}
theorem R2.start(ha:Blk w gA tA xA)(hb:Blk w gB tB xB)(hne:gA≠gB)(h:B≤gA∧B≤gB):R2 B w w gA gB tA tB xA xB:=⟨ha,hb,fun _ _ _ _=>rfl,Below.refl _ _,hne,h⟩
theorem R2.keep(h:R2 B w W gA gB tA tB xA xB)(hb:Below W.heap.size W W'):R2 B w W' gA gB tA tB xA xB:=
 ⟨h.a.keep hb,h.b.keep hb,fun k hk h1 h2=>(hb.block k (Nat.lt_of_lt_of_le hk h.bel.size)).trans (h.o k hk h1 h2),h.bel.trans (hb.mono (Nat.le_trans h.lo.1 (Nat.le_of_lt h.a.lt))),h.ne,h.lo⟩
theorem R2.stA(h:R2 B w W gA gB tA tB xA xB)(vs:List Value)(hl:xA.size=vs.length):R2 B w (W.setCells gA 0 vs) gA gB tA tB vs.toArray xB:=
 ⟨h.a.setAll vs hl,(bA (fun e=>h.ne e.symm) _ _ _).trans h.b,fun k hk h1 h2=>(bA h1 _ _ _).trans (h.o k hk h1 h2),h.bel.trans (aO h.lo.1 _ _ _).1,h.ne,h.lo⟩
theorem R2.stB(h:R2 B w W gA gB tA tB xA xB)(vs:List Value)(hl:xB.size=vs.length):R2 B w (W.setCells gB 0 vs) gA gB tA tB xA vs.toArray:=
 ⟨(bA h.ne _ _ _).trans h.a,h.b.setAll vs hl,fun k hk h1 h2=>(bA h2 _ _ _).trans (h.o k hk h1 h2),h.bel.trans (aO h.lo.2 _ _ _).1,h.ne,h.lo⟩
theorem R2.old(h:R2 B w W gA gB tA tB xA xB)(hg:Blk w g t cs)(h1:g≠gA)(h2:g≠gB):Blk W g t cs:=(h.o g hg.lt h1 h2).trans hg
end
theorem Sn.same{w w':World}{s n:Nat}{v:Value}{xs:List Value}(h:Sn w s v n xs)(hk:∀ b,v.ownBlock=some b→w'.heap[b]? = w.heap[b]?):Sn w' s v n xs:=by
 obtain⟨A,cap,rfl,h1,h2,hx⟩:=h;refine⟨A,cap,rfl,h1,h2,fun hp=>?_⟩;obtain⟨g,off,rfl,hc⟩:=hx hp;exact⟨g,off,rfl,fun j u hj=>(World.cell?_of_block (a:=⟨g,off+j,none⟩) (hk g rfl)).trans (hc j u hj)⟩
theorem RK.same{w w':World}{m:RM}{r:RefD}(h:RK w m r)(hk:∀ b∈aL m r,w'.heap[b]? = w.heap[b]?)(hs:w.heap.size≤w'.heap.size):RK w' m r:=
 ⟨h.sec.same (fun b e=>hk b (bO.2 (.inl e))),h.opn.same (fun b e=>hk b (bO.2 (.inr (.inl e)))),h.plan.same (fun b e=>hk b (bO.2 (.inr (.inr (.inl e))))),fun p hp=>(h.cuts p hp).same (fun b e=>hk b (bO.2 (.inr (.inr (.inr ⟨p,hp,e⟩))))),h.ok,fun b hm=>Nat.lt_of_lt_of_le (h.bl b hm) hs⟩
theorem RLK.same{w w':World}{v:Value}{L:RLog}(h:RLK w v L)(hk:∀ b,v.ownBlock=some b→w'.heap[b]? = w.heap[b]?)(hs:w.heap.size≤w'.heap.size):RLK w' v L:=
 ⟨h.sn.same hk,h.ok,h.ln,h.side,h.gen,h.last,fun b e=>Nat.lt_of_lt_of_le (h.lt b e) hs⟩
section
variable {B : Nat} {w W : World} {gA gB : Nat} {tA tB : TypeId} {xA xB : Array Value}
theorem R2.rk{m:RM}{r:RefD}(h:R2 B w W gA gB tA tB xA xB)(k:RK w m r)(h1:gA ∉ aL m r)(h2:gB ∉ aL m r):RK W m r:=
 k.same (fun b hb=>h.o b (k.bl b hb) (fun e=>h1 (e ▸ hb)) (fun e=>h2 (e ▸ hb))) h.bel.size
theorem R2.rlk{v:Value}{L:RLog}(h:R2 B w W gA gB tA tB xA xB)(k:RLK w v L)(h1:v.ownBlock≠some gA)(h2:v.ownBlock≠some gB):RLK W v L:=
 k.same (fun b hb=>h.o b (k.lt b hb) (fun e=>h1 (e ▸ hb)) (fun e=>h2 (e ▸ hb))) h.bel.size
end
def bY(L:RLog)(c:Int):RLog:={ L with brk:=L.brk || (c == 11 || c == 12) }
theorem iU(v:Value)(L:RLog)(c:Int)(w:World)(h:RLK w v L):
  Calls Tryz.prog 94 #[.agg (rlC v L),.int .i64 c] w fun e w'=>e = .returned (.agg (rlC v (bY L c)))∧Below w.heap.size w w':=by
 obtain⟨w1,hw1⟩:=je ((w.alloc (.cells (rlC v L) 61)).alloc (.cells rlZ 61));have hB1:Blk w1 w.heap.size 61 (rlC v L):=by rw[hw1];exact(Blk.new _ _ _).alloc _
 have hZ1:Blk w1 (w.heap.size+1) 61 rlZ:=by rw[hw1];exact Blk.newAt _ _ _ _ (by simp)
 have hb1:Below w.heap.size w w1:=by rw[hw1];exact aB (aN _ _) (aN _ _)
 have h1:(rlC v (bY L c)).all (·.oneCell')=true:=dB (w:=w) (L:=bY L c) ⟨h.sn,h.ok,h.ln,h.side,h.gen,h.last,h.lt⟩;obtain⟨g,hg⟩:=je w.heap.size;rw[← hg] at hB1 hZ1;have c5:w1.cell? ⟨g,5,none⟩=some (.bool L.brk):=(hB1.cell 5).trans rfl;have f5:=hB1.frozen 5;have hgs:=hB1.lt;obtain⟨B,hB⟩:∃ B:Bool,B=(L.brk || (c == 11 || c == 12)):=⟨_,rfl⟩;have HBV:=jz hB;have HB1:=jz hB1;have HZ1:=jz hZ1;have HW1:=jz hb1;have HG:=jz hg;have HRA:Hid (bY L c={ L with brk:=B }):=jz (by rw[hB];rfl);clear hB1 hZ1 hb1 h hB;go_enter Tryz.func94,Tryz.ntmps94
 go_upto_region 1 with (refine al 61 rlZ rfl rfl jY ?_)
 have hsz:(w.alloc (.cells (rlC v L) 61)).heap.size=g+1:=by rw[hg];simp
 rw[← hw1,hsz,← hg];simp only[jq];clear hw1 hg hsz;have HS:Hid (∀ x:Bool,x=B→Blk (w1.setCell ⟨g,5,none⟩ (.bool x)) g 61 (rlC v (bY L c))∧Blk (w1.setCell ⟨g,5,none⟩ (.bool x)) (g+1) 61 rlZ∧Below w.heap.size w (w1.setCell ⟨g,5,none⟩ (.bool x))):=jz (fun x hx=>by
  subst hx
  refine⟨by rw[HRA.out];exact HB1.set_ 5 _,(Below.heap_setCell w1 ⟨g,5,none⟩ _ (g+1) (by show g+1≠g;omega)).trans HZ1.out,HW1.setCell (p:=⟨g,5,none⟩) (by rw[HG.out];exact Nat.le_refl _) _⟩)
 go_cut [] from 5 to 15 (fun wx=>Hid (Blk wx g 61 (rlC v (bY L c))∧Blk wx (g+1) 61 rlZ∧Below w.heap.size w wx))
 case first=>
  obtain⟨lb,hlb⟩:∃ b:Bool,b=L.brk:=⟨_,rfl⟩;rw[← hlb] at c5 HBV;clear hlb;cases lb with
  | true=>
   go_wp2_with fail
   go_meet
   exact jz (HS.out _ (by rw[HBV.out];rfl))
  | false=>
   rcases jb (c == 11) with t11|t11
   ·go_wp2_with fail
    go_meet
    exact jz (HS.out _ (by rw[HBV.out,t11];rfl))
   ·go_wp2_with fail
    go_meet
    exact jz (HS.out _ (by rw[HBV.out,t11];rfl))
 case rest=>
  rename World=>w2
  have hr2:=hcut.out.1.range;go_wp2_with (first
   | (refine ld 61 _ rfl rfl rfl hr2 Tryz.underlying61 rfl rlI ?_)
   | (refine bC (cells:=rlC v (bY L c)) 61 (.tmp 4) (.tmp 16) rfl rfl rfl rfl hcut.out.2.1 rlI rfl h1 ?_;intro w4 hB4 hb4 ho4 hs4;have HB4:=jz hB4;have HE4:=jz hb4;clear hB4 hb4 ho4 hs4))
  exact bodyPost_ret (results_cell_row rfl _ _ (g+1) 61 _ (0,0) _ rfl HB4.out Tryz.underlying61 rfl rlI) rfl ⟨rfl,hcut.out.2.2.trans (HE4.mono (by have:=HG.out;omega))⟩
def fY(r:RefD):Nat→Nat
 | 0=>0
 | k+1=>max (fY r k) (bW (rdR r k))
theorem oF{r:RefD}(h:ROk r):∀ k,fY r k<4294967296
 | 0=>by unfold fY;omega
 | k+1=>by
  unfold fY;have h1:=oF h k;have h2:=lO (qF h k);omega
theorem AQ(m:RM)(r:RefD)(w:World)(h:RK w m r):
  Calls Tryz.prog 131 #[.agg (aA m r)] w fun e w'=>e = .returned (.int .u32 (fY r r.sec.length))∧Below w.heap.size w w':=by
 obtain⟨As,cs,es⟩:=h.sec.slc;obtain⟨w1,hw1⟩:=je (w.alloc (.cells (aA m r) 57));have hB1:Blk w1 w.heap.size 57 (aA m r):=by rw[hw1];exact Blk.new _ _ _
 have hb1:Below w.heap.size w w1:=by rw[hw1];exact aN _ _
 have HK:=jz h;have HB1:=jz hB1;have HW1:=jz hb1;have hlen:(Tryz.prog.info? 57).map (·.size)=some (aA m r).toList.length:=bG;have HLEN:=jz hlen;have hsl:r.sec.length≤4096:=h.ok.few;have HES:=jz es;clear hB1 hb1 h es hlen;go_enter Tryz.func131,Tryz.ntmps131
 go_upto_region 1 with fail
 rw[← hw1];clear hw1;go_wp2_with fail
 go_loopw [3,4] (fun x i wr=>∃ k:Nat,k≤r.sec.length∧i = .int .i64 (k:Int)∧x = .int .u32 (fY r k:Int)∧Hid (Blk wr w.heap.size 57 (aA m r))∧Hid (Below w.heap.size w wr)) (fun _ i _=>r.sec.length-(intOf i).toNat)
 case atStart=>exact⟨0,Nat.zero_le _,rfl,rfl,HB1,HW1⟩
 case round=>
  obtain⟨k,hk,rfl,rfl,HB,HW⟩:=hrel;have c0:wr.cell? ⟨w.heap.size,0,none⟩=some m.sv:=(HB.cell 0).trans rfl;rw[HES.out] at c0;rcases Nat.lt_or_ge k r.sec.length with hlt|hge
  ·have hki:(k:Int)<r.sec.length:=by omega
   have hrb:=HB.range;have HR:=jz (rR m r k wr (HK.keep HW.out) ⟨by omega,by omega⟩);have hsec:=qF HK.ok (k:Int);have hul:=cS (rdR r k);have hus:(u8s (rdR r k)).length=64:=by rw[aP,hsec.1]
   have HSEC:=jz hsec;have h1:=oF HK.ok k;have h2:=lO hsec;obtain⟨s,hs⟩:=je (rdR r k);have HSE:=jz hs.symm;rw[← hs] at HR hul hus HSEC h2;clear hs hsec;obtain⟨l,hl⟩:=je (fY r k);have HLE:=jz hl.symm;rw[← hl] at h1 ⊢;clear hl;have hsz1:(Tryz.prog.info? 144).map (·.size)=some (u8s s).toArray.size:=by rw[js,hus];kernel_rfl
   have hsz2:z64.size=(u8s s).toArray.size:=by
    have h:z64.size=64:=by kernel_rfl
    rw[h,js,hus]
   go_upto_region 6 with (first
    | (refine ld 57 _ rfl rfl rfl hrb Tryz.underlying57 rfl HLEN.out ?_)
    | (go_at_call 151;refine HR.mono ?_;rintro e w2 ⟨rfl,hb2⟩)
    | (refine al 144 z64 rfl rfl cK ?_)
    | (refine cR (cells:=(u8s s).toArray) 144 (.tmp 5) (.tmp 18) rfl rfl (by rfl) (by rfl) hsz1 hsz2 hul ?_;intro w3 hB3 hb3 hs3))
   have HB3:Hid (w3.rangeAt w2.heap.size 0 (u8s s)):=jz (oD hB3);have HBB:Hid (Blk w3 w.heap.size 57 (aA m r)):=jz ((HB.keep hb2).keep hb3);have HW3:Hid (Below w.heap.size w w3):=jz (aB (aB HW.out hb2) hb3);have HT:=jz (uE s w3 HSEC.out.1 HSEC.out.2);have hus':(Tryz.prog.info? 144).map (·.size)=some (u8s s).length:=by rw[hus];kernel_rfl
   obtain⟨tg,htg⟩:=je (beN ((s.drop 60).take 4));have HTG:Hid (bW s=tg):=jz htg.symm;rw[← htg] at HT;have h3:tg<4294967296:=by have:=HTG.out;omega
   have HMX:Hid (max (l:Int) (tg:Int)=((max l tg:Nat):Int)):=jz (by omega);have HNX:Hid (fY r (k+1)=max l tg):=jz (by rw[fY,HLE.out,HSE.out,HTG.out]);clear hB3 hb3 hs3 hb2 c0 hrb HR htg hsz1 hsz2 hul;go_wp2_with (first
    | (refine ld 144 _ rfl rfl rfl HB3.out Tryz.underlying144 rfl hus' ?_)
    | (go_at_call 154;refine HT.mono ?_;rintro e w4 ⟨rfl,hb4⟩;have HB4:=jz hb4;clear hb4))
   exact⟨⟨k+1,by omega,by go_num,by rw[HNX.out,HMX.out],jz (HBB.keep HB4.out),jz (aB HW3.out HB4.out)⟩,by simp[intOf];omega⟩
  ·obtain rfl:k=r.sec.length:=by omega
   go_wp2_with fail
   go_ret;exact⟨rfl,HW.out⟩
end
end Go.Proofs.YtombncedfleljaaGreat
