import Derived.OneCell
import Derived.Test.YtombncedfleljaaGreatMC40
set_option linter.unusedVariables false
set_option linter.unusedSimpArgs false
set_option maxRecDepth 100000
set_option maxHeartbeats 40000000
namespace Go.Proofs.YtombncedfleljaaGreat
section
open Go.RowKit
attribute [local irreducible] wpQuiet wpAnyH
def xS(a b:Int):Int:=if a+b>9223372036854775807 then 9223372036854775807 else if a+b < -9223372036854775808 then -9223372036854775808 else a+b
theorem zP(a b:Int):aK (xS a b):=by unfold xS aK;split <;> (try split) <;> omega
def LZ(w:World)(g:Nat)(z:Int)(w':World):Prop:=w'=w.setCell ⟨g,0,none⟩ (.int .i64 z)
theorem IE(a b:Int)(g:Nat)(t:TypeId)(w:World)(ha:aK a)(hb:aK b)(hB:Blk w g t #[.int .i64 a]):
  Calls Tryz.prog 68 #[.int .i64 b,.pointer (some ⟨g,0,none⟩)] w fun e w'=>e = .returned (.tuple #[])∧LZ w g (xS a b) w':=by
 have hc:=hB.cell 0;have hf:=hB.frozen 0;simp only[List.getElem?_toArray,List.getElem?_cons_zero] at hc;obtain⟨s,hs⟩:∃ s,wrap64 (a+b)=s:=⟨_,rfl⟩;have hwr:(-9223372036854775808≤a+b∧a+b≤9223372036854775807∧s=a+b)∨(9223372036854775807<a+b∧s=a+b-18446744073709551616)∨(a+b < -9223372036854775808∧s=a+b+18446744073709551616):=by
  rw[← hs];unfold aK at ha hb;unfold wrap64;omega
 have HW:=jz hwr;have HA:=jz ha;have HB':=jz hb;clear hwr ha hb hB;have hq:xS a b=if 9223372036854775807<a+b then 9223372036854775807 else if a+b < -9223372036854775808 then -9223372036854775808 else a+b:=rfl
 have HQ:=jz hq;clear hq;rcases jb (decide (0≤a)) with t1|t1 <;> rcases jb (decide (0≤b)) with t2|t2 <;> rcases jb (decide (s<0)) with t3|t3
 all_goals
  have n1:decide (a<0) = !decide (0≤a):=by by_cases h:0≤a <;> simp[h] <;> omega
  have n2:decide (b<0) = !decide (0≤b):=by by_cases h:0≤b <;> simp[h] <;> omega
  have n3:decide (0≤s) = !decide (s<0):=by by_cases h:0≤s <;> simp[h] <;> omega
  rw[t1] at n1;rw[t2] at n2;rw[t3] at n3;simp only[Bool.not_true,Bool.not_false] at n1 n2 n3;go_enter Tryz.func68,Tryz.ntmps68
  go_wp2_with fail
  go_end0
  refine⟨rfl,?_⟩;unfold LZ;rw[HQ.out];have h1:=HW.out;have h2:=HA.out;have h3:=HB'.out;unfold aK at h2 h3;simp only[decide_eq_true_eq,decide_eq_false_iff_not] at t1 t2 t3
  first
   | (rw[if_pos (by omega)])
   | (rw[if_neg (by omega),if_pos (by omega)])
   | (rw[if_neg (by omega),if_neg (by omega)];congr 2;omega)
theorem KA(a b:Int)(v:Value)(w:World)(ha:aK a)(hb:aK b)(hs:Sl w v [.int .i64 b]):
  Calls Tryz.prog 44 #[.int .i64 a,v] w fun e w'=>e = .returned (.int .i64 (xS a b))∧Below w.heap.size w w':=by
 obtain⟨A,cap,rfl,hcap,hx⟩:=hs;obtain⟨bk,off,rfl,hcell⟩:=hx (by simp);have hc0:=hcell 0 _ rfl;have hlt:=fJ hc0;simp only[List.length_cons,List.length_nil,Nat.zero_add,Nat.add_zero] at hc0 hcap hlt ⊢;have HA:=jz ha;have HB:=jz hb;have HC:=jz hc0;clear hcell hx ha hb hc0;go_enter Tryz.func44,Tryz.ntmps44
 go_wp2_with fail
 go_loopw [11] (fun i wr=>∃ k:Nat,k≤1∧i = .int .i64 k∧Blk wr w.heap.size 2 #[.int .i64 (if k=0 then a else xS a b)]∧Below w.heap.size w wr) (fun i _=>1-(intOf i).toNat)
 case atStart=>exact⟨0,by omega,rfl,Blk.new _ _ _,(Below.refl _ _).alloc (Nat.le_refl _) _⟩
 case round=>
  obtain⟨k,hk,rfl,hB,hbl⟩:=hrel;rcases Nat.lt_or_ge k 1 with hlt1|hge
  ·obtain rfl:k=0:=by omega
   rw[if_pos rfl] at hB;have hc:=Below.cell' (w:=w) (w':=wr) ⟨hbl.os,hbl.tape,hbl.output,hbl.size,hbl.block⟩ HC.out;have HBl:=jz hB;have hbl2:=jz hbl;clear hB hbl;go_wp2_with (go_at_call 68;refine(IE a b w.heap.size _ wr HA.out HB.out HBl.out).mono ?_;rintro e w' ⟨rfl,rfl⟩)
   exact⟨⟨1,by omega,by go_num,by rw[if_neg (by omega)];exact HBl.set_ 0 _,hbl2.out.setCell (Nat.le_refl _) _⟩,by simp[intOf]⟩
  ·obtain rfl:k=1:=by omega
   rw[if_neg (by omega)] at hB;have hc:=hB.cell 0;simp only[List.getElem?_toArray,List.getElem?_cons_zero] at hc;go_wp2_with fail
   go_ret;exact⟨rfl,hbl⟩
theorem zQ(d:DiskD)(h:Nat)(L:LogD):∀ k es,(fAt d h L k).1=some es→es.length≤d.sec.length
 | 0,es,he=>by cases he
 | k+1,es,he=>by
  have ih:=zQ d h L k;have h1:=iB ((d.sec.drop (aY h k)).take h) (none,[]);rw[List.length_take,List.length_drop] at h1;have h2:(dD d (aY h k) h).2.length≤d.sec.length:=by unfold dD;simp at h1;omega
  unfold fAt fA at he;cases hg:(dD d (aY h k) h).1 with
  | none=>rw[hg] at he;exact ih es he
  | some g=>
   rw[hg] at he;simp only at he;split at he
   ·exact ih es he
   ·injection he with he;rw[← he];exact h2
theorem pP(d:DiskD):(∃ x,(openR d).1=some x∧(openR d).2.2=none)∨(∃ L es,(openR d).1=none∧(openR d).2.2=some (L,es)∧es.length≤d.sec.length):=by
 unfold openR;split
 ·exact .inl ⟨_,rfl,rfl⟩
 ·split
  ·exact .inl ⟨_,rfl,rfl⟩
  ·unfold fF;split
   ·rename_i es he;exact .inr ⟨_,es,rfl,rfl,by have:=zQ _ _ _ _ es he;rw[eV] at this;exact this⟩
   ·split
    ·exact .inl ⟨_,rfl,rfl⟩
    ·split
     ·exact .inl ⟨_,rfl,rfl⟩
     ·exact .inr ⟨_,[],rfl,rfl,Nat.zero_le _⟩
def oW(w w':World)(m':DiskM)(n:Nat)(r:Ans×DiskD×Option (LogD×List aW))(pc:Value)(now til:Int):Prop:=match r.2.2 with
 | none=>pc = .pointer none
 | some (L,es)=>∃ gc gl gi bi,pc = .pointer (some ⟨gc,0,none⟩)∧CK w' m' r.2.1 gc gl gi bi (n/2) es.length ⟨L,aE (bN es) now,til⟩∧w.heap.size≤gc∧w.heap.size≤gl∧w.heap.size≤gi∧w.heap.size≤bi∧∀ q∈es,EntOk q
theorem zR(gl gi:Nat)(t:Int):Tryz.prog.built 84 [(0,.pointer (some ⟨gl,0,none⟩)),(1,.pointer (some ⟨gi,0,none⟩)),(2,.int .i64 t)]=some (gP gl gi t):=by unfold gP;kernel_rfl
theorem IF(skew now:Int)(w:World)(m:DiskM)(d:DiskD)(hk:DK w m d)(hr:d.room+10≤100000)(hl:d.sec.length≤1000)(hs:aK skew)(hn:aK now):
  Calls Tryz.prog 18 #[.pointer (some ⟨m.g,0,none⟩),.int .i64 skew,.int .i64 now] w fun e w'=>∃ pc m',e = .returned (.tuple #[pc,cC (openR d).1])∧DK w' m' (openR d).2.1∧DT w m w' m'∧oW w w' m' d.sec.length (openR d) pc now (xS now skew):=by
 have HO:=jz (GP w m d hk hr);have HK:=jz hk;have HSK:=jz hs;have HNW:=jz hn;clear hk hs hn;obtain⟨g9,hg9⟩:=je m.g;rw[← hg9] at HO ⊢;clear hg9;rcases pP d with ⟨x,h1,h2⟩|⟨L,es,h1,h2,h3⟩
 ·rw[h1] at HO ⊢;have H2:=jz h2;obtain⟨ty,u,hv⟩:=cV x;rw[hv] at HO ⊢;have hne:=dS ty u;clear hv h1 h2;go_enter Tryz.func18,Tryz.ntmps18
  go_wp2_with fail
  refine HO.mono ?_;rintro e w1 ⟨pl,ve,m1,rfl,hk1,ht1,how⟩;have HK1:=jz hk1;have HT1:=jz ht1;clear hk1 ht1 how HO;go_wp2_with fail
  go_ret2
  exact⟨_,m1,rfl,HK1.out,HT1.out,by unfold oW;rw[H2.out];rfl⟩
 ·rw[h1] at HO ⊢;have H2:=jz h2;have hvn:cC none = .nilIface:=rfl;rw[hvn] at HO ⊢;clear h1 h2;go_enter Tryz.func18,Tryz.ntmps18
  go_wp2_with fail
  refine HO.mono ?_;rintro e w1 ⟨pl,ve,m1,rfl,hk1,ht1,how⟩;unfold pK at how;rw[H2.out] at how;obtain⟨gl,rfl,hlk,hgl,hown,hok,hoa⟩:=how;have HLK:=jz hlk;have HT1:=jz ht1;have HOK:=jz hok;have HNE:=jz (K0 ve es w1 (Sn.own hown) hok (by omega));have HGL:Hid (w.heap.size≤gl∧gl<w1.heap.size):=jz ⟨hgl,hlk.blk.lt⟩;have HH:Hid (w.heap.size≤w1.heap.size):=jz ht1.fo.size;clear hk1 ht1 hlk hok hown hoa hgl HO;go_wp2_with fail
  refine HNE.mono ?_;rintro e w2 ⟨gi,bi,rfl,hx2,hgi,hbi,hib,hb2⟩;have HX2:=jz hx2;have HB2:=jz hb2;have HIB:Hid (w1.heap.size≤gi∧w1.heap.size≤bi∧gi≠bi∧gi<w2.heap.size∧bi<w2.heap.size):=jz ⟨hgi,hbi,hib,hx2.lt.1,hx2.lt.2⟩;have HAD:=jz (fun W v (hv:Sl W v [.int .i64 skew])=>KA now skew v W HNW.out HSK.out hv);clear hx2 hb2 hgi hbi hib HNE;obtain⟨til,htil⟩:=je (xS now skew);have HTI:Hid (aK til):=jz (by rw[htil];exact zP now skew);rw[← htil] at HAD;have HTL:=jz htil;clear htil;have HBL:=jz (zR gl gi til);have hsl:Sl (w2.alloc (.cells #[.int .i64 skew] 2)) (.slice (some ⟨w2.heap.size,0,none⟩) 1 1) [.int .i64 skew]:=
   ⟨some ⟨w2.heap.size,0,none⟩,1,rfl,by simp,fun _=>⟨w2.heap.size,0,rfl,(Blk.new w2 2 #[.int .i64 skew]).range⟩⟩
  have HSL:=jz hsl;clear hsl;go_wp2_with fail
  refine(HAD.out _ _ HSL.out).mono ?_;rintro e w3 ⟨rfl,hb3⟩;have HB3:Hid (Below w2.heap.size w2 w3):=jz (aB (aN _ _) hb3);obtain⟨w4,hw4⟩:=je (w3.alloc (.cells (gP gl gi til) 84));obtain⟨gc,hgc⟩:=je w3.heap.size;have HC4:Hid (Blk w4 gc 84 (gP gl gi til)):=jz (by rw[hw4,hgc];exact Blk.new _ _ _);have HB4:Hid (Below w2.heap.size w2 w4):=jz (aB HB3.out (by rw[hw4];exact aN _ _));have HGC:Hid (w2.heap.size≤gc):=jz (by rw[hgc];exact HB3.size);have HX4:=jz (HX2.keep HB4.out);have HDR:=jz (DC w4 gi bi es.length (bN es) now HX4.out (by omega));obtain⟨_,c1,_⟩:=cF HC4.out;clear hb3 HAD HSL;go_upto_region 5 with (refine bld 84 _ rfl rfl rfl HBL.out ?_)
  rw[← hw4,← hgc];clear hw4 hgc;go_wp2_with fail
  refine HDR.mono ?_;rintro e w5 ⟨kd,rfl,hx5,ho5⟩;have HX5:=jz hx5;have HO5:=jz ho5;clear hx5 ho5 HDR c1;go_wp2_with fail
  go_ret2
  have hlt:gc<w4.heap.size:=HC4.lt;have hc4:=HC4.out;rw[HTL.out] at hc4;have hb2:=aB HB2.out HB4.out;have hbl:Below w1.heap.size w1 w4:=hb2;have hi:=HIB.out;have hg:=HGL.out;have hbi:w1.heap.size≤bi:=hi.2.1;have hlk4:=HLK.keep hbl;have hgcw:w1.heap.size≤gc:=Nat.le_trans HB2.size HGC.out;have hgs:=HGC.out;have hk5:DK w5 m1 (openR d).2.1:=hlk4.dk.offO HO5.out (Apart.fresh HLK.dk hbi);refine⟨_,m1,rfl,hk5,HT1.trans (DT.of_below (hbl.trans (HO5.below hbi (Nat.le_trans hbl.size (Nat.le_refl _))))),?_⟩;unfold oW;rw[H2.out];refine⟨gc,gl,gi,bi,rfl,⟨⟨hk5,(HO5.block gl hlk4.blk.lt (by omega)).trans hlk4.blk,hlk4.ap,hlk4.ok⟩,(HO5.block gc hlt (by omega)).trans hc4,HX5.out,Apart.fresh HLK.dk hgcw,Apart.fresh HLK.dk hi.1,Apart.fresh HLK.dk hbi,⟨by omega,by omega,by omega,by omega,hi.2.2.1⟩,zP _ _⟩,by have:=HH.out;omega,hg.1,by have:=HH.out;omega,by have:=HH.out;omega,HOK.out⟩
structure Op21 where
 kind:Int
 n:Int
 ent:Int
 more:Int
 cuts:List Int
 cv:Value
def aZ(o:Op21):List Value:=[.int .i64 o.kind,.int .i64 o.n,.int .i64 o.ent,.int .i64 o.more,o.cv]
structure Op21Ok(w:World)(o:Op21):Prop where
 kind:aK o.kind
 n:aK o.n
 ent:aK o.ent
 more:aK o.more
 cuts:Sn w 1 o.cv o.cuts.length (eR o.cuts)
 cok:∀ c∈o.cuts,aK c
def l9(o:Op21):Prop:=o.cuts.length≤20∧0≤o.n∧o.n≤1048576∧-1048576≤o.more∧o.more≤4611686017353646080
theorem Op21Ok.keep{w w':World}{o:Op21}(h:Op21Ok w o)(hb:Below w.heap.size w w'):Op21Ok w' o:=⟨h.kind,h.n,h.ent,h.more,h.cuts.below hb,h.cok⟩
theorem fP(o:Op21):(aZ o).length=5:=rfl
theorem DE(o:Op21):(Tryz.prog.info? 31).map (·.size)=some (aZ o).length:=by rw[fP];kernel_rfl
theorem Sn.slc21{w:World}{s n:Nat}{v:Value}{xs:List Value}(h:Sn w s v n xs):∃ A cap,v = .slice A n cap:=by
 obtain⟨A,cap,e,_⟩:=h;exact⟨A,cap,e⟩
theorem gD{w:World}{g:Nat}{o:Op21}(h:Blk w g 31 (aZ o).toArray):w.cell? ⟨g,0,none⟩=some (.int .i64 o.kind)∧w.cell? ⟨g,1,none⟩=some (.int .i64 o.n)∧w.cell? ⟨g,2,none⟩=some (.int .i64 o.ent)∧w.cell? ⟨g,3,none⟩=some (.int .i64 o.more)∧w.cell? ⟨g,4,none⟩=some o.cv:=
 ⟨(h.cell 0).trans rfl,(h.cell 1).trans rfl,(h.cell 2).trans rfl,(h.cell 3).trans rfl,(h.cell 4).trans rfl⟩
theorem qK{w:World}{A:Option Addr}{cap:Nat}{l:List Op21}(h:Sn w 5 (.slice A l.length cap) l.length (l.flatMap aZ))(k:Nat)(hk:k<l.length):
  ∃ b off,A=some ⟨b,off,none⟩∧w.rangeAt b (off+k*5) (aZ l[k]):=by
 obtain⟨A',cap',hv,_,_,hx⟩:=h;injection hv with hv _ _
 obtain⟨b,off,he,hc⟩:=hx (by omega);refine⟨b,off,hv.trans he,fun i u hi=>?_⟩;have hi5:i<5:=(List.getElem?_eq_some_iff.1 hi).1;have hp:=dL aZ 5 l (fun o _=>fP o) k hk;have:(l.flatMap aZ)[k*5+i]? = some u:=by
  rw[← hi,← hp,List.getElem?_take_of_lt hi5,List.getElem?_drop]
 have:=hc (k*5+i) u this;rw[show off+k*5+i=off+(k*5+i) by omega];exact this
def gZ(z t:Int):List Int×Int:=LM (z % 18446744073709551616).toNat t
theorem g5(z t:Int)(ht:aK t):EntOk (gZ z t):=CD _ t ht
theorem nS(z:Int)(t:Int)(w:World)(ht:aK t):
  Calls Tryz.prog 9 #[.int .i64 z,.int .i64 t] w fun e w'=>e = .returned (.agg (aC (gZ z t)).toArray)∧Below w.heap.size w w':=by
 obtain⟨n,hn⟩:=je ((z % 18446744073709551616).toNat);have hz0:0≤z % 18446744073709551616:=Int.emod_nonneg _ (by decide);have hz1:z % 18446744073709551616<18446744073709551616:=Int.emod_lt_of_pos _ (by decide);have hzn:z % 18446744073709551616=(n:Int):=by rw[hn];omega
 have hwz:IntKind.u64.wrap z=(n:Int):=by rw[← hzn];rfl
 have hnl:n<18446744073709551616:=by omega
 have HN:Hid (gZ z t=(spL n 32,t)):=jz (by rw[hn];rfl);clear hz0 hz1 hzn hn;have HSP:=jz (fun w1=>AE n 32 w1 (by omega) (by omega));have h3:=rF n 32;have h2:(aC (spL n 32,t)).length=33:=aH _ (CD n t ht);rw[HN.out];obtain⟨s,hs⟩:=je (spL n 32);rw[← hs] at HSP h2 h3 ⊢;clear hs HN ht;have h1:(aC (s,t)).toArray.all (·.oneCell')=true:=dK _ _;have HS:Hid ((u8s s).length=32):=jz (by rw[aP,h3]);have HBL:=jz (tZ s t h3);have hn0:(0:Int)≤n:=by omega
 have hn1:(n:Int)<18446744073709551616:=by omega
 have hsz:zE.size=(aC (s,t)).toArray.size:=by rw[dR,js,h2]
 have hsz2:(Tryz.prog.info? 35).map (·.size)=some (aC (s,t)).toArray.size:=by rw[js,h2];kernel_rfl
 obtain⟨E,hE⟩:=je ((aC (s,t)).toArray);rw[← hE] at h1 HBL hsz hsz2 ⊢;clear hE h2 h3;obtain⟨w1,hw1⟩:=je (w.alloc (.cells zE 35));have HB1:Hid (Below w.heap.size w w1):=jz (by rw[hw1];exact(Below.refl _ w).alloc (Nat.le_refl _) _);have HE1:Hid (Blk w1 w.heap.size 35 zE):=jz (by rw[hw1];exact Blk.new _ _ _);go_enter Tryz.func9,Tryz.ntmps9
 go_wp2_with (refine al 35 _ rfl rfl iE ?_)
 rw[← hw1];clear hw1;refine(HSP.out w1).mono ?_;rintro e w2 ⟨v,rfl,ho,hb2⟩;have HB2:=jz (aB HB1.out hb2);have HE2:=jz (HE1.keep hb2);obtain⟨A,cap,rfl,_,_,hx⟩:=Sn.own ho;obtain⟨b,off,rfl,hcell⟩:=hx (by omega);have HR:Hid (w2.rangeAt b off (u8s s)):=jz hcell;clear ho hb2 hx hcell;go_wp2_with (first
  | (refine s2a 33 _ rfl rfl rfl Tryz.underlying33 (by omega) ?_)
  | (refine ld 33 _ rfl rfl rfl HR.out Tryz.underlying33 rfl (by rw[HS.out];kernel_rfl) ?_)
  | (refine bld 35 _ rfl rfl rfl HBL.out ?_)
  | (refine bC 35 (.tmp 4) (.tmp 11) rfl rfl rfl rfl HE2.out hsz2 hsz h1 ?_;intro w3 hB3 hb3 _ _;have HB3:=jz hB3;have HE3:=jz hb3;clear hB3 hb3))
 refine bodyPost_ret (results_cell_row rfl _ _ w.heap.size 35 _ (0,0) _ rfl HB3.out Tryz.underlying35 rfl hsz2) rfl ⟨rfl,?_⟩;exact HB2.trans (HE3.mono (Nat.le_refl _))
theorem DF(A:Option Addr)(cap:Nat)(l:List Op21)(w:World)(hs:Sn w 5 (.slice A l.length cap) l.length (l.flatMap aZ))(hok:∀ o∈l,Op21Ok w o)(hl:l.length≤9223372036854775807):
  Calls Tryz.prog 7 #[.slice A l.length cap] w fun e w'=>∃ b:Bool,e = .returned (.int .i64 (if b then 1 else 0))∧Below w.heap.size w w'∧(b=true→l.length≤40∧∀ o∈l,l9 o):=by
 have HS:=jz hs;have HOK:=jz hok;clear hs hok;have hll:(l.length:Int)≤9223372036854775807:=by omega
 go_enter Tryz.func7,Tryz.ntmps7
 go_wp2_with fail
 go_loopw [3] (fun i wr=>∃ k:Nat,k≤l.length∧i = .int .i64 (k:Int)∧Hid (∀ o∈l.take k,l9 o)∧wr=w) (fun i _=>l.length-(intOf i).toNat)
 case atStart=>exact⟨0,Nat.zero_le _,rfl,jz (fun o ho=>by simp at ho),rfl⟩
 case round=>
  obtain⟨k,hk,rfl,HF,hw⟩:=hrel;rw[hw];clear hw;rcases Nat.lt_or_ge k l.length with hlt|hge
  ·obtain⟨b,off,hA,hr⟩:=qK HS.out k hlt;subst hA;have ho:=HOK.out _ (List.getElem_mem hlt);have HN:Hid (l9 l[k]→∀ o∈l.take (k+1),l9 o):=jz (fun h o ho=>by
    rw[List.take_succ_eq_append_getElem hlt] at ho
    rcases List.mem_append.1 ho with ho|ho
    ·exact HF.out o ho
    ·rw[List.mem_singleton.1 ho];exact h)
   obtain⟨o,hoe⟩:=je (l[k]);rw[← hoe] at hr ho HN;clear hoe;obtain⟨Ac,cc,ec⟩:=ho.cuts.slc21;have c1:w.cell? ⟨b,off+k*5+1,none⟩=some (.int .i64 o.n):=hr 1 _ rfl;have c3:w.cell? ⟨b,off+k*5+3,none⟩=some (.int .i64 o.more):=hr 3 _ rfl;have c4:w.cell? ⟨b,off+k*5+4,none⟩=some (.slice Ac o.cuts.length cc):=hr 4 _ (by rw[← ec];rfl);have p1 : -9223372036854775808≤o.n:=ho.n.1;have p2:o.n≤9223372036854775807:=ho.n.2;have hi0:(0:Int)≤k:=by omega
   have hi1:(k:Int)<l.length:=by omega
   clear hr ho ec;rcases jb (decide ((20:Int)<(o.cuts.length:Int))) with t1|t1
   ·go_wp2_with fail
    go_ret;exact⟨false,rfl,Below.refl _ _,fun h=>by cases h⟩
   ·rcases jb (decide (o.n<0)) with t2|t2
    ·go_wp2_with fail
     go_ret;exact⟨false,rfl,Below.refl _ _,fun h=>by cases h⟩
    ·rcases jb (decide ((1048576:Int)<o.n)) with t3|t3
     ·go_wp2_with fail
      go_ret;exact⟨false,rfl,Below.refl _ _,fun h=>by cases h⟩
     ·rcases jb (decide (o.more < -1048576)) with t4|t4
      ·go_wp2_with fail
       go_ret;exact⟨false,rfl,Below.refl _ _,fun h=>by cases h⟩
      ·rcases jb (decide ((4611686017353646080:Int)<o.more)) with t5|t5
       ·go_wp2_with fail
        go_ret;exact⟨false,rfl,Below.refl _ _,fun h=>by cases h⟩
       ·have HN2:=jz (HN.out ⟨by have:=of_decide_eq_false t1;omega,by have:=of_decide_eq_false t2;omega,by have:=of_decide_eq_false t3;omega,by have:=of_decide_eq_false t4;omega,by have:=of_decide_eq_false t5;omega⟩);go_wp2_with fail
        exact⟨⟨k+1,by omega,by go_num,HN2,trivial⟩,by simp[intOf];omega⟩
  ·obtain rfl:k=l.length:=by omega
   rw[List.take_length] at HF;rcases jb (decide ((40:Int)<(l.length:Int))) with t1|t1
   ·go_wp2_with fail
    go_ret;exact⟨false,rfl,Below.refl _ _,fun h=>by cases h⟩
   ·go_wp2_with fail
    go_ret;exact⟨true,rfl,Below.refl _ _,fun _=>⟨by have:=of_decide_eq_false t1;omega,HF.out⟩⟩
theorem IG(o:Ans)(w:World)(h:aK (cQ o)):Calls Tryz.prog 47 #[cC o] w fun e w'=>e = .returned (.int .i64 (cQ o))∧Below w.heap.size w w':=by
 obtain⟨v,hv⟩:=je (cC o);have HC:=jz (rD o w);rw[← hv] at HC ⊢;obtain⟨c,hc⟩:=je (cQ o);rw[← hc] at HC h ⊢;have h1 : -9223372036854775808≤c:=h.1;have h2:c≤9223372036854775807:=h.2;clear hv hc h;go_enter Tryz.func47,Tryz.ntmps47
 go_wp2_with (go_at_call 54;refine HC.mono ?_;rintro e w1 ⟨rfl,hb⟩;have HB:=jz hb;clear hb)
 go_ret;exact⟨rfl,HB.out⟩
end
section
open Go.RowKit
theorem IH(va vb:Value)(l m:List (List Int×Int))(w:World)(hs:Sn w 33 va l.length (l.flatMap aC))(hok:∀ p∈l,EntOk p)(hs':Sn w 33 vb m.length (m.flatMap aC))(hok':∀ p∈m,EntOk p)(hl:l.length≤1000)(hm:m.length≤1000):
  Calls Tryz.prog 20 #[va,vb] w fun e w'=>e = .returned (.bool (decide (l=m)))∧Below w.heap.size w w':=by
 obtain⟨A,cap,rfl,hcap,_,_⟩:=id hs;obtain⟨A',cap',rfl,hcap',_,_⟩:=id hs';have HS:=jz hs;have HOK:=jz hok;have HS':=jz hs';have HOK':=jz hok';clear hs hok hs' hok';rcases jb ((l.length:Int) != m.length) with d1|d1
 ·go_enter Tryz.func20,Tryz.ntmps20
  go_wp2_with fail
  go_ret;have hne:l≠m:=fun e=>by subst e;simp at d1
  exact⟨by simp[hne],Below.refl _ _⟩
 ·have hlm:l.length=m.length:=by simp at d1;omega
  have HLM:=jz hlm;clear hlm;go_enter Tryz.func20,Tryz.ntmps20
  go_wp2_with fail
  go_loopw [5] (fun i wr=>∃ k:Nat,k≤l.length∧i = .int .i64 k∧Hid (l.take k=m.take k)∧Below w.heap.size w wr) (fun i _=>l.length-(intOf i).toNat)
  case atStart=>exact⟨0,Nat.zero_le _,rfl,jz rfl,Below.refl _ _⟩
  case round=>
   obtain⟨k,hk,rfl,heqk,hb⟩:=hrel;by_cases hlt:k<l.length
   ·have hlt':k<m.length:=by rw[← HLM.out];exact hlt
    obtain⟨b,off,rfl,hr⟩:=gH aC EntOk 33 aH (HS.below hb) HOK.out k hlt;obtain⟨b',off',rfl,hr'⟩:=gH aC EntOk 33 aH (HS'.out.below hb) HOK'.out k hlt';have hr:wr.rangeAt b (off+k*33) (aC l[k]):=hr;have hr':wr.rangeAt b' (off'+k*33) (aC m[k]):=hr';have la:=aH l[k] (HOK.out _ (List.getElem_mem hlt));have lb:=aH m[k] (HOK'.out _ (List.getElem_mem hlt'));have heq:=J0 (HOK.out l[k] (List.getElem_mem hlt)) (HOK'.out m[k] (List.getElem_mem hlt'));have hud:=Tryz.underlying35;have hua:(Tryz.prog.info? 35).map (·.size)=some (aC l[k]).length:=by rw[la];kernel_rfl
    have hub:(Tryz.prog.info? 35).map (·.size)=some (aC m[k]).length:=by rw[lb];kernel_rfl
    have hi0:(0:Int)≤k:=by omega
    have hi1:(k:Int)<l.length:=by omega
    have hi2:(k:Int)<m.length:=by omega
    go_wp2_with fail
    rcases jb (decide (l[k]=m[k])) with t1|t1
    all_goals
     rw[t1] at heq;refine wp_region_quiet_lit (by kernel_rfl) (by kernel_rfl) ?_
     repeat (first
      | (refine kH 35 (.tmp 19) rfl rfl rfl hr hud rfl hua ?_;simp only[jq])
      | (refine kH 35 (.tmp 23) rfl rfl rfl hr' hud rfl hub ?_;simp only[jq])
      | quiet_step (fail))
     refine wpQuiet_nil ?_;intro w2 hw2;obtain⟨nq,hw3⟩:=hw2;subst hw3
    ·go_wp2_with fail
     refine⟨⟨k+1,by omega,by go_num,jz ?_,bR hb _⟩,by simp[intOf];omega⟩;rw[List.take_succ_eq_append_getElem hlt,List.take_succ_eq_append_getElem hlt',heqk.out,of_decide_eq_true t1]
    ·go_wp2_with fail
     go_ret;have hne:l≠m:=fun e=>of_decide_eq_false t1 (by subst e;rfl)
     exact⟨by simp[hne],bR hb _⟩
   ·obtain rfl:k=l.length:=by omega
    have hall:l=m:=by
     have h:=heqk.out;rw[List.take_length,HLM.out,List.take_length] at h;exact h
    go_wp2_with fail
    go_ret;exact⟨by simp[hall],hb⟩
end
section
open Go.RowKit
attribute [local irreducible] wpQuiet wpAnyH
theorem II(n:Nat)(hn:2≤n):∃ r',(3≤r'∧r'≤6)∧openR (fV n)=(none,qD ((List.replicate n zsec).set 0 (rec 1 toll)) [] 3 r',some (⟨0,0,1,0,false⟩,[])):=by
 obtain⟨r',hr1,hr2,hw⟩:=F4 (sec:=List.replicate n zsec) (st:=1) (r:=1) (a:=0) (by decide) (by simp;omega) (rec 1 toll);refine⟨r',⟨by omega,by omega⟩,?_⟩;have hf:=oT n hn;have hlen:(fV n).sec.length=n:=List.length_replicate;unfold openR;rw[if_neg (by omega),KU,CH,vW];show fF (qD (List.replicate n zsec) [] 1 1)=_;have hl2:(qD (List.replicate n zsec) [] 1 1).sec.length=n:=List.length_replicate;have hof:(kK (qD (List.replicate n zsec) [] 1 1)).1=none:=s9 (fun s hs=>by rw[hl2];exact hf.scan s hs);have hla:bV (qD (List.replicate n zsec) [] 1 1) (qD (List.replicate n zsec) [] 1 1).sec.length=0:=by
  have:=nR (d:=qD (List.replicate n zsec) [] 1 1) rfl rfl 0 hf.tag _ (Nat.le_refl _);omega
 unfold fF;rw[hof,hla];simp only[show ¬((0:Nat)=4294967295) by omega,if_false,Nat.zero_add];rw[F3 (by decide) (by simp;omega),hw];rfl
theorem L0{sec:List (List Int)}{st r h:Nat}{L:LogD}{q:aW}(hb:L.brk=false)(hr:aS q=true)(hs:L.side<2)(hc:L.cnt+1<h)(hl:h+h≤sec.length):
  ∃ sec' r',r'≤max r (st+2)+1∧st+2≤r'∧sec'.length=sec.length∧lW (qD sec [] st r) h L q=none∧appD (qD sec [] st r) h L q=qD sec' [] (st+2) r'∧iI (qD sec [] st r) h L q={ L with cnt:=L.cnt+1 }:=by
 have hsd:=pO (h:=h) hs;have e0:∀ {α:Type} (x y:α),(if L.brk=true then x else y)=y:=fun x y=>by rw[hb];rfl
 rcases zL (qD sec [] st r) (aY h L.side) h ((L.cnt+1:Nat):Int) L.gen q (by omega) with ⟨h1,_⟩|⟨_,h1,_⟩|⟨_,_,e1,e2⟩
 ·rw[gC (by omega)] at h1;omega
 ·rw[hr] at h1;cases h1
 ·obtain⟨p,hp⟩:∃ p:Nat,(aY h L.side:Int)+((L.cnt+1:Nat):Int)=(p:Int):=⟨aY h L.side+(L.cnt+1),by omega⟩;have hpl:(p:Int)<sec.length:=by omega
  rw[hp] at e1 e2;obtain⟨r',h1,h2,hw⟩:=F4 (sec:=sec) (st:=st) (r:=r) (a:=(p:Int)) (by omega) hpl (aD L.gen q);rw[F3 (by omega) hpl] at e1;rw[hw] at e2;refine⟨sec.set (p:Int).toNat (aD L.gen q),r',h2,h1,?_,?_,?_,?_⟩
  ·exact List.length_set ..
  ·unfold lW;rw[e0,e1]
  ·unfold appD;rw[e0,e2]
  ·unfold iI;rw[e0,e1];rfl
theorem KL{P:Program}{ops:Array Oper}{rest:List Oper}{o:Oper}{a:Act}{w:World}{Q:Exit→Act→World→Prop}{t e s bytes:Nat}(T:SlT P t e s bytes)(x:Operand)(ho:o.op = .buildSlice t 1 #[(0,x)])(hw:Region.wanted o (yielded ops a.tmps)=true)
  {cs:List Value} (hx:a.eval x = .agg cs.toArray) (hl:cs.length=s) (hs1:s≤1000)
  (h:wpList P ops Q rest (a.put o.dst (.slice (some ⟨w.heap.size,0,none⟩) 1 1)) (w.alloc (.cells cs.toArray e))):wpList P ops Q (o :: rest) a w:=
 wpList_step fun K hK=>by
  rw[if_pos hw];unfold Oper.wp;have hrun:(execOp a.eval o).run P w = .ok (.value (.slice (some ⟨w.heap.size,0,none⟩) 1 1)) (w.alloc (.cells cs.toArray e)):=by
   have hrun:=lF T cs hl hs1 w;unfold execOp;simp only[ho,Sem.run_bind,List.map_toArray,List.map_cons,List.map_nil,hx,hrun,Result.andThen_ok];rfl
  rw[hrun,Oper.upon_value];exact hK _ _ h
theorem St.log{w0 w w':World}{m m':DiskM}{d d':DiskD}{gl:Nat}(h:St w0 w m d)(hk:DK w' m' d')(ht:LT gl w m w' m')(hg:w0.heap.size≤gl):St w0 w' m' d':=
 ⟨hk,ht.le h.ft h.bel.size,h.bel.trans (ht.below h.ft hg h.bel.size)⟩
theorem L3{sec:List (List Int)}{st r h:Nat}{L:LogD}{qs:List aW}(hb:L.brk=false)(hs:L.side<2)(hg:max L.last L.gen<4294967295)(hr:∀ q∈qs,aS q=true)(hc:qs.length+1≤h)(hl:h+h≤sec.length)(hst:st≤r):
  ∃ sec' st' r',r'≤r+2*qs.length+10∧st'≤r'∧sec'.length=sec.length∧rewR (qD sec [] st r) h L qs=(none,qD sec' [] st' r',{ L with side:=1-L.side,gen:=max L.last L.gen+1,cnt:=qs.length }):=by
 rw[lR hb hg];unfold p7;obtain⟨g,hgg⟩:=je (max L.last L.gen+1);rw[← hgg];have hsd:=pO (h:=h) (s:=1-L.side) (by omega);obtain⟨f,hf⟩:=je (aY h (1-L.side));rw[← hf] at hsd ⊢;rcases oS (qD sec [] st r) (f:Int) h g qs with ⟨h1,_⟩|⟨_,e⟩|⟨_,_,e⟩
 ·rw[gC (by omega)] at h1;omega
 ·unfold fillR at e;rw[gC (by omega),if_neg (by omega),if_pos (List.all_eq_true.2 hr)] at e;obtain⟨r2,_,h2⟩:=wH (qs.map (aD g)) sec [] st r ((f:Int)+1) (by omega) (by rw[List.length_map];omega) hst;rw[h2] at e;cases e
 ·obtain⟨r2,hr2,h2⟩:=wH (qs.map (aD g)) sec [] st r ((f:Int)+1) (by omega) (by rw[List.length_map];omega) hst;rw[e,h2];simp only;have hl2:(setAll sec ([]++wrs ((f:Int)+1) (qs.map (aD g)))).length=sec.length:=gI _ _;obtain⟨r3,h3,h4,h5⟩:=F4 (sec:=setAll sec ([]++wrs ((f:Int)+1) (qs.map (aD g)))) (st:=st+(qs.map (aD g)).length+1) (r:=r2) (a:=(f:Int)) (by omega) (by omega) (rec g toll);rw[F3 (by omega) (by omega),h5];rw[List.length_map] at hr2 h3 h4;refine⟨_,_,r3,?_,?_,?_,rfl⟩
  ·omega
  ·rw[List.length_map];omega
  ·rw[List.length_set,hl2]
structure QS(N:Nat)(d:DiskD)(C:CacheD)(b:Nat):Prop where
 q:∃ sec st r,d=qD sec [] st r∧sec.length=N∧st≤r∧r≤100*b
 brk:C.L.brk=false
 side:C.L.side<2
 gen:max C.L.last C.L.gen≤b
 wl:WL C.E
 ri:∀ q∈C.E,aS q=true
 bb:b≤200
theorem QS.more{N:Nat}{d:DiskD}{C:CacheD}{b b':Nat}(h:QS N d C b)(hb:b≤b')(hb2:b'≤200):QS N d C b':=by
 obtain⟨sec,st,r,h1,h2,h3,h4⟩:=h.q;exact⟨⟨sec,st,r,h1,h2,h3,by omega⟩,h.brk,h.side,by have:=h.gen;omega,h.wl,h.ri,hb2⟩
theorem mU(L:EL)(e:List Int×Int)(P:List Int×Int→Prop)(h:∀ p∈L,P p)(he:P e):∀ p∈(aM L e).1,P p:=by
 have key:∀(L:EL) (s:EL×Bool),(∀ p∈L,P p)→(∀ p∈s.1,P p)→∀ p∈(L.foldl (cO e) s).1,P p:=by
  intro L;induction L with
  | nil=>intro s _ h;exact h
  | cons q L ih=>
   intro s hL hs;refine ih _ (fun p hp=>hL p (List.mem_cons_of_mem _ hp)) (fun p hp=>?_);have hq:=hL q (List.mem_cons_self ..);unfold cO at hp;have h2:∀ p∈(if (!s.2 && decide (dE e q<0))=true then (s.1++[e],true) else s).1,P p:=fun p hp=>by
    split at hp
    ·rcases List.mem_append.1 hp with hp|hp
     ·exact hs p hp
     ·rw[List.mem_singleton.1 hp];exact he
    ·exact hs p hp
   simp only at hp;split at hp
   ·exact h2 p hp
   ·rcases List.mem_append.1 hp with hp|hp
    ·exact h2 p hp
    ·rw[List.mem_singleton.1 hp];exact hq
 have hput:∀ p∈(j9 L e).1,P p:=key L ([],false) h (fun p hp=>by cases hp);intro p hp;unfold aM at hp;split at hp
 ·exact h p hp
 ·simp only at hp;split at hp
  ·exact hput p hp
  ·rcases List.mem_append.1 hp with hp|hp
   ·exact hput p hp
   ·rw[List.mem_singleton.1 hp];exact he
theorem IJ{N b:Nat}{d:DiskD}{C:CacheD}(h:QS N d C b)(now:Int)(hl:(aE C.E now).length+1≤N/2)(hb:b+1≤200)(hn:N≤30):
  ∃ d' C',cmpR d (N/2) C now=(none,d',C')∧QS N d' C' (b+1)∧C'.L.cnt=(aE C.E now).length∧C'.E=aE C.E now∧C'.til=C.til:=by
 obtain⟨sec,st,r,rfl,h2,h3,h4⟩:=h.q;have hri:∀ q∈aE C.E now,aS q=true:=fun q hq=>h.ri q (List.mem_filter.1 hq).1
 have hg:=h.gen;obtain⟨sec',st',r',a1,a2,a3,a4⟩:=L3 (sec:=sec) (st:=st) (r:=r) (h:=N/2) (L:=C.L) (qs:=aE C.E now) h.brk h.side (by omega) hri hl (by omega) h3;unfold cmpR;rw[a4];refine⟨_,_,rfl,⟨⟨sec',st',r',rfl,by omega,a2,by omega⟩,h.brk,by show 1-C.L.side<2;omega,by show max C.L.last (max C.L.last C.L.gen+1)≤b+1;omega,h.wl.live now,hri,hb⟩,rfl,rfl,rfl⟩
theorem IK{N b:Nat}{d:DiskD}{C:CacheD}{q:aW}(h:QS N d C b)(hq:EntOk q)(hr:aS q=true)(hc:C.L.cnt+1<N/2)(hb:b+1≤200):
  ∃ d' C',insT d (N/2) C q=(10,d',C')∧QS N d' C' (b+1)∧C'.L.cnt=C.L.cnt+1∧C'.E=(aM C.E q).1∧C'.til=C.til:=by
 obtain⟨sec,st,r,rfl,h2,h3,h4⟩:=h.q;obtain⟨sec',r',a1,a2,a3,a4,a5,a6⟩:=L0 (sec:=sec) (st:=st) (r:=r) (h:=N/2) (L:=C.L) (q:=q) h.brk hr h.side hc (by omega);unfold insT;rw[if_neg (by omega),a4,a5,a6];refine⟨_,_,rfl,⟨⟨sec',st+2,r',rfl,by omega,a2,by omega⟩,h.brk,h.side,by have:=h.gen;show max C.L.last C.L.gen≤b+1;omega,h.wl.put hq,mU _ _ _ h.ri hr,hb⟩,rfl,rfl,rfl⟩
theorem BN{N b:Nat}{d:DiskD}{C:CacheD}{q:aW}{now:Int}(h:QS N d C b)(hr:aS q=true)(hh:fI C.E q.1 now=false):
  insR d (N/2) C q now=if N/2-1≤C.L.cnt then (match (cmpR d (N/2) C now).1 with
  | some x=>(xN (some x),(cmpR d (N/2) C now).2.1,(cmpR d (N/2) C now).2.2)
  | none=>insT (cmpR d (N/2) C now).2.1 (N/2) (cmpR d (N/2) C now).2.2 q) else insT d (N/2) C q:=by
 unfold aS at hr;obtain⟨r1,r2⟩:=(Bool.and_eq_true _ _).mp hr;have r3:=of_decide_eq_true r1;have r4:=of_decide_eq_true r2;unfold insR;rw[if_neg (by rw[hh];simp),if_neg (by rw[h.brk];simp),if_neg (by omega),if_neg (by omega)];rfl
theorem tD{N b:Nat}{d:DiskD}{C:CacheD}{q:aW}{now:Int}(h:QS N d C b)(hq:EntOk q)(hr:aS q=true)(hh:fI C.E q.1 now=false)(hc:C.L.cnt+1<N/2)(hb:b+1≤200):
  ∃ d' C',insR d (N/2) C q now=(10,d',C')∧QS N d' C' (b+1)∧C'.L.cnt=C.L.cnt+1∧C'.E=(aM C.E q).1∧C'.til=C.til:=by
 rw[BN h hr hh,if_neg (by omega)];exact IK h hq hr hc hb
theorem BO{N b:Nat}{d:DiskD}{C:CacheD}{q:aW}{now:Int}(h:QS N d C b)(hr:aS q=true)(hh:fI C.E q.1 now=false)(hc:N/2-1≤C.L.cnt)(hl:(aE C.E now).length+1=N/2)(hb:b+1≤200)(hn:N≤30):
  ∃ d' C',insR d (N/2) C q now=(9,d',C')∧QS N d' C' (b+1)∧C'.L.cnt=(aE C.E now).length∧C'.E=aE C.E now∧C'.til=C.til:=by
 obtain⟨d',C',a1,a2,a3,a4,a5⟩:=IJ h now (by omega) hb hn;rw[BN h hr hh,if_pos hc,a1];refine⟨d',C',?_,a2,a3,a4,a5⟩;show insT d' (N/2) C' q=_;unfold insT;rw[if_pos (by omega)]
theorem IL{N b:Nat}{d:DiskD}{C:CacheD}{q:aW}{now:Int}(h:QS N d C b)(hq:EntOk q)(hr:aS q=true)(hh:fI C.E q.1 now=false)(hc:N/2-1≤C.L.cnt)(hl:(aE C.E now).length+1<N/2)(hb:b+2≤200)(hn:N≤30):
  ∃ d' C',insR d (N/2) C q now=(10,d',C')∧QS N d' C' (b+2)∧C'.L.cnt=(aE C.E now).length+1∧C'.E=(aM (aE C.E now) q).1∧C'.til=C.til:=by
 obtain⟨d1,C1,a1,a2,a3,a4,a5⟩:=IJ h now (by omega) (by omega) hn;rw[BN h hr hh,if_pos hc,a1];obtain⟨d2,C2,b1,b2,b3,b4,b5⟩:=IK (q:=q) a2 hq hr (by omega) (by omega);exact⟨d2,C2,b1,b2,by rw[b3,a3],by rw[b4,a4],by rw[b5,a5]⟩
theorem QS.new(t:Int):∃ d L,openR (fV 8)=(none,d,some (L,[]))∧QS 8 d ⟨L,[],t⟩ 1∧L.cnt=0∧d.room≤10:=by
 obtain⟨r',hr,h⟩:=II 8 (by omega);refine⟨_,_,h,⟨⟨_,3,r',rfl,?_,by omega,by omega⟩,rfl,by show 0<2;omega,by show max 0 1≤1;omega,WL.nil,(fun q hq=>by cases hq),by omega⟩,rfl,by show r'≤10;omega⟩;rw[List.length_set,List.length_replicate]
def q1:aW:=gZ 1 20
def q2:aW:=gZ 2 20
def q3:aW:=gZ 3 20
def q4:aW:=gZ 4 20
def q5:aW:=gZ 4 30
theorem K4:fI [] q1.1 10=false∧fI (aM [] q1).1 q1.1 20=true∧fI (aM [] q1).1 q2.1 10=false∧fI (aM (aM [] q1).1 q2).1 q3.1 10=false ∧
  fI (aM (aM (aM [] q1).1 q2).1 q3).1 q4.1 10=false∧(aE (aM (aM (aM [] q1).1 q2).1 q3).1 10).length=3 ∧
  fI (aE (aM (aM (aM [] q1).1 q2).1 q3).1 10) q5.1 21=false∧aE (aE (aM (aM (aM [] q1).1 q2).1 q3).1 10) 21=[]:=by
 refine⟨by kernel_rfl,by kernel_rfl,by kernel_rfl,by kernel_rfl,by kernel_rfl,by kernel_rfl,by kernel_rfl,by kernel_rfl⟩
theorem QS.rm{N b:Nat}{d:DiskD}{C:CacheD}(h:QS N d C b):d.room≤100*b:=by
 obtain⟨sec,st,r,rfl,_,_,h4⟩:=h.q;exact h4
theorem K5:EntOk q1∧EntOk q2∧EntOk q3∧EntOk q4∧EntOk q5:=⟨g5 _ _ ⟨by decide,by decide⟩,g5 _ _ ⟨by decide,by decide⟩,g5 _ _ ⟨by decide,by decide⟩,g5 _ _ ⟨by decide,by decide⟩,g5 _ _ ⟨by decide,by decide⟩⟩
theorem MF:aS q1=true∧aS q2=true∧aS q3=true∧aS q4=true∧aS q5=true:=by
 refine⟨by kernel_rfl,by kernel_rfl,by kernel_rfl,by kernel_rfl,by kernel_rfl⟩
theorem xT:∃(d1 d2 d3 d4 d5 d6:DiskD) (L1:LogD) (C2 C3 C4 C5 C6:CacheD),openR (fV 8)=(none,d1,some (L1,[])) ∧
  insR d1 (8/2) ⟨L1,[],15⟩ q1 10=(10,d2,C2)∧insR d2 (8/2) C2 q1 20=(8,d2,C2)∧insR d2 (8/2) C2 q2 10=(10,d3,C3)∧insR d3 (8/2) C3 q3 10=(10,d4,C4) ∧
  insR d4 (8/2) C4 q4 10=(9,d5,C5)∧insR d5 (8/2) C5 q5 21=(10,d6,C6)∧C6.L.cnt=1∧d1.room≤1000∧d2.room≤1000∧d3.room≤1000∧d4.room≤1000∧d5.room≤1000:=by
 obtain⟨v1,v2,v3,v4,v5,v6,v7,v8⟩:=K4;obtain⟨k1,k2,k3,k4,k5⟩:=K5;obtain⟨r1,r2,r3,r4,r5⟩:=MF;obtain⟨d1,L1,o1,s1,n1,m1⟩:=QS.new 15;obtain⟨d2,C2,i1,s2,n2,e2,_⟩:=tD (q:=q1) (now:=10) s1 k1 r1 v1 (by show L1.cnt+1<4;omega) (by omega);replace e2:C2.E=(aM [] q1).1:=e2;replace n2:C2.L.cnt=L1.cnt+1:=n2;have i2:insR d2 (8/2) C2 q1 20=(8,d2,C2):=by unfold insR;rw[if_pos (by rw[e2];exact v2)]
 obtain⟨d3,C3,i3,s3,n3,e3,_⟩:=tD (q:=q2) (now:=10) s2 k2 r2 (by rw[e2];exact v3) (by omega) (by omega);rw[e2] at e3;obtain⟨d4,C4,i4,s4,n4,e4,_⟩:=tD (q:=q3) (now:=10) s3 k3 r3 (by rw[e3];exact v4) (by omega) (by omega);rw[e3] at e4;obtain⟨d5,C5,i5,s5,n5,e5,_⟩:=BO (q:=q4) (now:=10) s4 r4 (by rw[e4];exact v5) (by omega) (by rw[e4,v6]) (by omega) (by omega);rw[e4] at n5 e5;rw[v6] at n5;obtain⟨d6,C6,i6,s6,n6,e6,_⟩:=IL (q:=q5) (now:=21) s5 k5 r5 (by rw[e5];exact v7) (by omega) (by rw[e5,v8];decide) (by omega) (by omega);rw[e5,v8] at n6;exact⟨d1,d2,d3,d4,d5,d6,L1,C2,C3,C4,C5,C6,o1,i1,i2,i3,i4,i5,i6,n6,by have:=s1.rm;omega,by have:=s2.rm;omega,by have:=s3.rm;omega,by have:=s4.rm;omega,by have:=s5.rm;omega⟩
theorem E4:∀ w,(binOp .eql 42 .nilIface .nilIface).run Tryz.prog w = .ok (.bool true) w:=fun w=>by kernel_rfl
theorem nU(q:aW)(now:Int)(w:World)(hq:EntOk q):Calls Tryz.prog 11 #[.pointer none,.agg (aC q).toArray,.int .i64 now] w fun e w'=>e = .returned (.int .i64 9)∧Below w.heap.size w w':=by
 obtain⟨w1,hw1⟩:=je (w.alloc (.cells (aC q).toArray 35));have HB1:Hid (Below w.heap.size w w1):=jz (by rw[hw1];exact aN _ _);go_enter Tryz.func11,Tryz.ntmps11
 go_upto_region 1 with fail
 rw[← hw1];clear hw1;go_wp2_with fail
 go_ret;exact⟨rfl,HB1.out⟩
structure AW(w W:World)(m:DiskM)(d:DiskD)(gc gl gi bi n gq:Nat)(C:CacheD):Prop where
 st:St w W m d
 ck:CK W m d gc gl gi bi (8/2) n C
 g:w.heap.size≤gl∧w.heap.size≤bi
 q:Blk W gq 35 (aC q1).toArray
 f:Far m [gl,bi] gq
theorem AW.keep{w W W':World}{m:DiskM}{d:DiskD}{gc gl gi bi n gq:Nat}{C:CacheD}(h:AW w W m d gc gl gi bi n gq C)(hb:Below W.heap.size W W'):AW w W' m d gc gl gi bi n gq C:=⟨h.st.keep hb,h.ck.keep hb,h.g,h.q.keep hb,h.f⟩
theorem AW.ins{w W:World}{m:DiskM}{d d2:DiskD}{gc gl gi bi n gq:Nat}{C C2:CacheD}(h:AW w W m d gc gl gi bi n gq C)(q:aW)(now a:Int)(hi:insR d (8/2) C q now=(a,d2,C2))(hq:EntOk q)(hn:n+1≤1000)(hr:d.room≤1000):
  Calls Tryz.prog 11 #[.pointer (some ⟨gc,0,none⟩),.agg (aC q).toArray,.int .i64 now] W fun e W'=>e = .returned (.int .i64 a)∧∃ m',AW w W' m' d2 gc gl gi bi (n+1) gq C2:=by
 refine(zO q now W m d gc gl gi bi (8/2) n C h.ck hq hn (by omega)).mono ?_;rw[hi];rintro e W' ⟨rfl,m',hk,ht⟩;exact⟨rfl,m',h.st.ct hk.lk.dk ht (fun b hb=>by
  simp at hb
  rcases hb with rfl|rfl
  ·exact h.g.1
  ·exact h.g.2),hk,h.g,h.q.ct ht h.f,ht.far h.q.lt h.f⟩
theorem lT(w:World):Calls Tryz.prog 6 #[] w fun e w'=>e = .returned (.bool true)∧Below w.heap.size w w':=by
 obtain⟨d1,d2,d3,d4,d5,d6,L1,C2,C3,C4,C5,C6,v0,v1,v2,v3,v4,v5,v6,v7,b1,b2,b3,b4,b5⟩:=xT;have V0:=jz v0;have V1:=jz v1;have V2:=jz v2;have V3:=jz v3;have V4:=jz v4;have V5:=jz v5;have V6:=jz v6;have V7:=jz v7;have VB:=jz (And.intro b1 (And.intro b2 (And.intro b3 (And.intro b4 b5))));have VQ:=jz K5;have hql:=aH q1 K5.1;have HQI:Hid ((Tryz.prog.info? 35).map (·.size)=some (aC q1).length):=jz (by rw[hql];kernel_rfl);have HNU:Hid (∀ z t W,aK t→Calls Tryz.prog 9 #[.int .i64 z,.int .i64 t] W fun e W'=>e = .returned (.agg (aC (gZ z t)).toArray)∧Below W.heap.size W W'):=jz (fun z t W h=>nS z t W h);clear v0 v1 v2 v3 v4 v5 v6 v7 b1 b2 b3 b4 b5;go_enter Tryz.func6,Tryz.ntmps6
 go_wp2_with fail
 refine(qX 8 w (by omega) (by omega)).mono ?_;rintro e w1 ⟨m1,rfl,hk1,hb1,hf1⟩;have HS1:Hid (St w w1 m1 (fV 8)):=jz ⟨hk1,hf1,hb1⟩;have hl0:(fV 8).sec.length=8:=List.length_replicate;have HO:=jz (IF 5 10 w1 m1 (fV 8) hk1 (by show 0+10≤100000;omega) (by omega) ⟨by decide,by decide⟩ ⟨by decide,by decide⟩);rw[V0.out,hl0] at HO;clear hk1 hb1 hf1 hl0;go_wp2_with fail
 refine HO.mono ?_;rintro e w2 ⟨pc,m2,rfl,hk2,ht2,hcw⟩;have hvn:cC none = .nilIface:=rfl;rw[hvn];unfold oW at hcw;obtain⟨gc,gl,gi,bi,rfl,hck,g1,g2,g3,g4,_⟩:=hcw;have HS2:=jz (HS1.next hk2 ht2);have HK2:Hid (CK w2 m2 d1 gc gl gi bi (8/2) 0 ⟨L1,[],15⟩):=jz hck;have HG:Hid (w.heap.size≤gl∧w.heap.size≤bi):=jz (by have:=HS1.bel.size;exact⟨by omega,by omega⟩);have hrn:=E4;clear hk2 ht2 hck g1 g2 g3 g4 HO hvn;have hsz1:(Tryz.prog.info? 35).map (·.size)=some (aC q1).toArray.size:=by rw[js];exact HQI.out
 have hsz2:zE.size=(aC q1).toArray.size:=by rw[dR,js,hql]
 have hone:(aC q1).toArray.all (·.oneCell')=true:=dK _ _;go_wp2_with fail
 refine(HNU.out 1 20 w2 ⟨by decide,by decide⟩).mono ?_;rintro e w3 ⟨rfl,hb3⟩;have HS3:=jz (HS2.keep hb3);have HK3:=jz (HK2.keep hb3);clear hb3;rw[show gZ 1 20=q1 from rfl];obtain⟨E,hE⟩:=je ((aC q1).toArray);rw[← hE] at hsz1 hsz2 hone ⊢;have HE:=jz hE;clear hE hql;go_upto_region 7 with (first
  | (refine al 35 _ rfl rfl iE ?_)
  | (refine cR (cells:=E) 35 (.tmp 5) (.tmp 18) rfl rfl (by rfl) (by rfl) hsz1 hsz2 hone ?_;intro w4 hB4 hb4 hs4))
 obtain⟨gq,hgq⟩:=je w3.heap.size;rw[← hgq] at hB4 ⊢;have HA4:Hid (AW w w4 m2 d1 gc gl gi bi 0 gq ⟨L1,[],15⟩):=jz ⟨HS3.keep hb4,HK3.keep hb4,HG.out,by rw[← HE.out];exact hB4,Apart.fresh HS3.dk (by omega),fun hm=>by
  have h1:=HK3.lk.blk.lt
  have h2:=HK3.ix.lt.2
  simp at hm
  omega⟩
 clear hB4 hb4 hs4 hsz1 hsz2 hone HE hgq HS1 HS2 HK2 HS3 HK3;have HQC:=jz (xM HA4.ck);have h15:(CacheD.mk L1 [] 15).til=15:=rfl;rw[h15] at HQC;clear h15;go_wp2_with fail
 refine HQC.mono ?_;rintro e wq ⟨rfl,hwq⟩;rw[hwq];clear hwq wq HQC;have hr4:=HA4.q.range;rw[jt] at hr4;have HI:=jz (HA4.ins q1 10 10 V1.out VQ.out.1 (by omega) VB.out.1);go_wp2_with (refine ld 35 _ rfl rfl rfl hr4 Tryz.underlying35 rfl HQI.out ?_)
 refine HI.mono ?_;rintro e w5 ⟨rfl,m5,ha⟩;have HA5:=jz ha;clear ha HI HA4 hr4;have hr5:=HA5.q.range;rw[jt] at hr5;have HI:=jz (HA5.ins q1 20 8 V2.out VQ.out.1 (by omega) VB.out.2.1);go_wp2_with (refine ld 35 _ rfl rfl rfl hr5 Tryz.underlying35 rfl HQI.out ?_)
 refine HI.mono ?_;rintro e w6 ⟨rfl,m6,ha⟩;have HA6:=jz ha;clear ha HI HA5 hr5;go_wp2_with fail
 refine(HNU.out 2 20 w6 ⟨by decide,by decide⟩).mono ?_;rintro e w6a ⟨rfl,hb⟩;have HA6a:=jz (HA6.keep hb);clear hb;rw[show gZ 2 20=q2 from rfl];have HI:=jz (HA6a.ins q2 10 10 V3.out VQ.out.2.1 (by omega) VB.out.2.1);go_wp2_with fail
 refine HI.mono ?_;rintro e w7 ⟨rfl,m7,ha⟩;have HA7:=jz ha;clear ha HI HA6 HA6a;go_wp2_with fail
 refine(HNU.out 3 20 w7 ⟨by decide,by decide⟩).mono ?_;rintro e w7a ⟨rfl,hb⟩;have HA7a:=jz (HA7.keep hb);clear hb;rw[show gZ 3 20=q3 from rfl];have HI:=jz (HA7a.ins q3 10 10 V4.out VQ.out.2.2.1 (by omega) VB.out.2.2.1);go_wp2_with fail
 refine HI.mono ?_;rintro e w8 ⟨rfl,m8,ha⟩;have HA8:=jz ha;clear ha HI HA7 HA7a;go_wp2_with fail
 refine(HNU.out 4 20 w8 ⟨by decide,by decide⟩).mono ?_;rintro e w8a ⟨rfl,hb⟩;have HA8a:=jz (HA8.keep hb);clear hb;rw[show gZ 4 20=q4 from rfl];have HI:=jz (HA8a.ins q4 10 9 V5.out VQ.out.2.2.2.1 (by omega) VB.out.2.2.2.1);go_wp2_with fail
 refine HI.mono ?_;rintro e w9 ⟨rfl,m9,ha⟩;have HA9:=jz ha;clear ha HI HA8 HA8a;go_wp2_with fail
 refine(HNU.out 4 30 w9 ⟨by decide,by decide⟩).mono ?_;rintro e w9a ⟨rfl,hb⟩;have HA9a:=jz (HA9.keep hb);clear hb;rw[show gZ 4 30=q5 from rfl];have HI:=jz (HA9a.ins q5 21 10 V6.out VQ.out.2.2.2.2 (by omega) VB.out.2.2.2.2);go_wp2_with fail
 refine HI.mono ?_;rintro e w10 ⟨rfl,m10,ha⟩;have HA10:=jz ha;clear ha HI HA9 HA9a;have HU:=jz (sP HA10.ck);rw[V7.out] at HU;go_wp2_with fail
 refine HU.mono ?_;rintro e wq ⟨rfl,hwq⟩;rw[hwq];clear hwq wq HU;have hr10:=HA10.q.range;rw[jt] at hr10;go_wp2_with (refine ld 35 _ rfl rfl rfl hr10 Tryz.underlying35 rfl HQI.out ?_)
 refine(nU q1 1 w10 VQ.out.1).mono ?_;rintro e w20 ⟨rfl,hb⟩;have HB:=jz (aB HA10.st.bel hb);clear hb;go_wp2_with fail
 refine(nP w20).mono ?_;rintro e wq ⟨rfl,hwq⟩;rw[hwq];clear hwq wq;go_wp2_with fail
 go_ret;exact⟨rfl,HB.out⟩
end
end Go.Proofs.YtombncedfleljaaGreat
