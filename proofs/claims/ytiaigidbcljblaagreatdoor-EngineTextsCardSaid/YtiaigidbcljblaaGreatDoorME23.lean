import Derived.Test.YtiaigidbcljblaaGreatDoorME22
import Derived.Test.YtiaigidbcljblaaGreatDoorME2
import Derived.Test.YtiaigidbcljblaaGreatDoorME20
import Derived.Test.YtiaigidbcljblaaGreatDoorME1
import Derived.BigQuiet
import Derived.OneCell
set_option linter.unusedVariables false
set_option linter.unusedSimpArgs false
set_option maxRecDepth 100000
set_option maxHeartbeats 40000000
namespace Go.Proofs.YtiaigidbcljblaaGreatDoor
open Go.RowKit
attribute [local irreducible] wpQuiet wpAnyH
def cmpR(d:DiskD)(h:Nat)(C:CacheD)(now:Int):Ans×DiskD×CacheD:=match (rewR d h C.L (liveL C.E now)).1 with
 | none=>(none,(rewR d h C.L (liveL C.E now)).2.1,⟨(rewR d h C.L (liveL C.E now)).2.2,liveL C.E now,C.til⟩)
 | some x=>(some x,(rewR d h C.L (liveL C.E now)).2.1,⟨(rewR d h C.L (liveL C.E now)).2.2,C.E,C.til⟩)
theorem CK.up{w:World}{m:DiskM}{d:DiskD}{gc gl gi bi h n n':Nat}{C:CacheD}(k:CK w m d gc gl gi bi h n C)(hn:n≤n'):CK w m d gc gl gi bi h n' C:=⟨k.lk,k.blk,k.ix.mono hn,k.ac,k.ai,k.ab,k.ne,k.i64⟩
theorem c_compact(now:Int)(w:World)(m:DiskM)(d:DiskD)(gc gl gi bi h n:Nat)(C:CacheD)(k:CK w m d gc gl gi bi h n C)(hn:n≤1000)(hr:d.room+30000≤100000):
  Calls Tryz.prog 114 #[.pointer (some ⟨gc,0,none⟩),.int .i64 now] w fun e w'=>e = .returned (valE (cmpR d h C now).1)∧∃ m',CK w' m' (cmpR d h C now).2.1 gc gl gi bi h n (cmpR d h C now).2.2∧CT [gl,bi] w m w' m':=by
 have HK:=Lib.hid k
 have hE:=k.ix.len
 have hll:=liveL_len C.E now
 have hok:∀ q∈liveL C.E now,EntOk q:=(k.ix.wl.live now).ok
 obtain⟨til,htil⟩:∃ t,t=C.til:=⟨_,rfl⟩
 obtain⟨ra,hra⟩:∃ x,x=(rewR d h C.L (liveL C.E now)).1:=⟨_,rfl⟩
 obtain⟨rd,hrd⟩:∃ x,x=(rewR d h C.L (liveL C.E now)).2.1:=⟨_,rfl⟩
 obtain⟨rl,hrl⟩:∃ x,x=(rewR d h C.L (liveL C.E now)).2.2:=⟨_,rfl⟩
 have HV:Hid (cmpR d h C now=match (generalizing:=false) ra with
  | none=>(none,rd,⟨rl,liveL C.E now,C.til⟩)
  | some x=>(some x,rd,⟨rl,C.E,C.til⟩)):=Lib.hid (by subst hra hrd hrl;rfl)
 have HRW:Hid (∀ W M A cap,LK W M d gl h C.L→Sn W 33 (.slice A (liveL C.E now).length cap) (liveL C.E now).length ((liveL C.E now).flatMap entP)→Calls Tryz.prog 175 #[.pointer (some ⟨gl,0,none⟩),.slice A (liveL C.E now).length cap] W fun e w'=>e = .returned (valE ra)∧∃ m',LK w' m' rd gl h rl∧LT gl W M w' m'):=Lib.hid (by rw[hra,hrd,hrl];exact fun W M A cap hk hs=>log_rewrite _ A cap W M d gl h C.L hk hs hok (by omega) (by omega))
 have HLV:=Lib.hid (fun W (kk:XK W gi bi n C.E)=>xk_live W gi bi n C.E now kk hn)
 clear hra hrd hrl k hok hE hll
 have HTL:=Lib.hid htil.symm
 go_enter Tryz.func114,Tryz.ntmps114
 go_upto_region 3 with fail
 clear htil
 rw[show C.til=til from HTL.out] at HV
 have HKB:Hid (CK w m d gc gl gi bi h n ⟨C.L,C.E,til⟩):=Lib.hid (by rw[← HTL.out];exact HK.out)
 replace HK:=HKB
 clear HKB
 obtain⟨wS,hwS⟩:∃ wS,wS=w.drew:=⟨_,rfl⟩
 have HD:Hid (Below w.heap.size w wS):=Lib.hid (by rw[hwS];exact(Below.refl _ _).drew)
 have HKS:=Lib.hid (HK.keep HD.out)
 refine kZ (n:=12) (fun W=>Blk W gc 229 (cacheC gl gi til)) (by rw[← hwS];exact HKS.blk) (h:=fun hH=>?_)
 rw[← hwS] at hH ⊢
 clear hwS
 refine kM 0 (some 9) (.pointer (some ⟨gc,0,none⟩)) (h:=?_)
 simp only[p1,p2,p3,p4,p5]
 refine kT 1 (some 10) (.pointer (some ⟨gc,0,none⟩)) (h:=?_)
 simp only[p1,p2,p3,p4,p5]
 refine kT 2 (some 11) (.pointer (some ⟨gc,0,none⟩)) (h:=?_)
 simp only[p1,p2,p3,p4,p5]
 refine kC 3 (some 12) (v:=.pointer (some ⟨gl,0,none⟩)) (fun _ hX=>(cache_cells hX).1) (h:=?_)
 simp only[p1,p2,p3,p4,p5]
 refine kM 4 (some 13) (.pointer (some ⟨gc,0,none⟩)) (h:=?_)
 simp only[p1,p2,p3,p4,p5]
 refine kT 5 (some 14) (.pointer (some ⟨gc,0,none⟩)) (h:=?_)
 simp only[p1,p2,p3,p4,p5]
 refine kT 6 (some 15) (.pointer (some ⟨gc,1,none⟩)) (h:=?_)
 simp only[p1,p2,p3,p4,p5]
 refine kC 7 (some 16) (v:=.pointer (some ⟨gi,0,none⟩)) (fun _ hX=>(cache_cells hX).2.1) (h:=?_)
 simp only[p1,p2,p3,p4,p5]
 refine kM 8 (some 17) (.int .i64 now) (h:=?_)
 simp only[p1,p2,p3,p4,p5]
 refine kF 9 (some 18) ((HLV.out wS HKS.ix).mono ?_)
 rintro e w5 ⟨v5,rfl,hs5,hb5,_⟩
 obtain⟨A5,c5,rfl,_⟩:=id hs5
 have HK5:=Lib.hid (HKS.keep hb5)
 have HS5:=Lib.hid hs5
 have HB5:=Lib.hid (bstep HD.out hb5)
 clear hs5
 refine⟨_,rfl,HKS.blk.keep hb5,fun hH=>?_⟩
 simp only[p1,p2,p3,p4,p5]
 refine kF 10 (some 19) ((HRW.out w5 m A5 c5 HK5.lk HS5.out).mono ?_)
 rintro e w6 ⟨rfl,m6,hlk6,ht6⟩
 have HK6:=Lib.hid (HK5.log hlk6 ht6)
 have HT6:Hid (CT [gl,bi] w m w6 m6):=Lib.hid ((CT.of_below HB5.out).trans (CT.of_lt ht6 (.inl (by simp))))
 clear hlk6 ht6
 refine⟨_,rfl,HK6.blk,fun hH=>?_⟩
 simp only[p1,p2,p3,p4,p5]
 refine kT 11 (some 5) (valE ra) (h:=?_)
 simp only[p1,p2,p3,p4,p5]
 refine kE (h:=?_)
 cases ra with
 | some x=>
  obtain⟨t,u,hv⟩:=valE_form x
  have HVE:=Lib.hid hv
  rw[hv]
  have hne:=neq_nil t u
  clear hv
  go_wp2_with fail
  go_ret
  rw[HV.out]
  exact⟨by rw[← HVE.out];rfl,m6,HK6.out,HT6.out⟩
 | none=>
  have hvn:valE none = .nilIface:=rfl
  rw[hvn]
  obtain⟨_,c1,_⟩:=cache_cells HK6.blk
  have HDR:=Lib.hid (xk_drop w6 gi bi n C.E now HK6.ix hn)
  clear hvn
  go_wp2_with fail
  refine HDR.mono ?_
  rintro e w7 ⟨kd,rfl,hx7,ho7⟩
  have HK7:=Lib.hid (HK6.index ho7 hx7)
  have HT7:=Lib.hid (HT6.trans (CT.of_off (F:=[gl,bi]) ho7 (by simp)))
  clear hx7 ho7
  go_wp2_with fail
  go_ret
  rw[HV.out]
  exact⟨rfl,m6,HK7.out,HT7.out⟩
theorem cmpR_bd{d:DiskD}(h:d.steps≤d.room)(hh:Nat)(C:CacheD)(now:Int):(cmpR d hh C now).2.1.room≤d.room+2*C.E.length+4∧(cmpR d hh C now).2.1.sec.length=d.sec.length:=by
 have h1:=rewR_bd h hh C.L (liveL C.E now)
 have h2:=rewR_len d hh C.L (liveL C.E now)
 have h3:=liveL_len C.E now
 unfold cmpR
 split
 ·exact⟨by show(rewR d hh C.L (liveL C.E now)).2.1.room≤_;omega,h2⟩
 ·exact⟨by show(rewR d hh C.L (liveL C.E now)).2.1.room≤_;omega,h2⟩
def PC(A B:EL)(now:Int):Nat→List Ent2→Prop:=fun _ es=>liveL (refOf es) now=liveL A now∨liveL (refOf es) now=liveL B now
structure CL(S:EL)(now:Int)(N K:Nat)(d:DiskD)(C:CacheD):Prop where
 sa:∃ es,SA (PC S S now) N K d C.L es
 wl:WL C.E
 le:liveL C.E now=liveL S now
theorem CL.more{S:EL}{now:Int}{N K K':Nat}{d:DiskD}{C:CacheD}(h:CL S now N K d C)(hK:K≤K'):CL S now N K' d C:=by
 obtain⟨es,h1⟩:=h.sa
 exact⟨⟨es,h1.imp (fun h=>h) hK⟩,h.wl,h.le⟩
theorem CL.brk{S:EL}{now:Int}{N K:Nat}{d:DiskD}{C:CacheD}(h:CL S now N K d C):C.L.brk=false:=by
 obtain⟨es,h1⟩:=h.sa
 exact h1.brk
theorem CL.disk{S:EL}{now:Int}{N K:Nat}{d d':DiskD}{C:CacheD}(h:CL S now N K d C)(hs:∀ P L es,SA P N K d L es→SA P N K d' L es):CL S now N K d' C:=by
 obtain⟨es,h1⟩:=h.sa
 exact⟨⟨es,hs _ _ _ h1⟩,h.wl,h.le⟩
theorem SB.left{A B:EL}{now:Int}{N K:Nat}{d:DiskD}(h:SB (PC A A now) N K d):SB (PC A B now) N K d:=h.imp (fun _ _ h=>.inl (h.elim id id)) (Nat.le_refl _)
def addS(a b:Int):Int:=if a+b>9223372036854775807 then 9223372036854775807 else if a+b < -9223372036854775808 then -9223372036854775808 else a+b
theorem addS_i64(a b:Int):isI64 (addS a b):=by unfold addS isI64;split <;> (try split) <;> omega
def Put1(w:World)(g:Nat)(z:Int)(w':World):Prop:=w'=w.setCell ⟨g,0,none⟩ (.int .i64 z)
theorem add1_any(a b:Int)(g:Nat)(t:TypeId)(w:World)(ha:isI64 a)(hb:isI64 b)(hB:Blk w g t #[.int .i64 a]):
  Calls Tryz.prog 207 #[.int .i64 b,.pointer (some ⟨g,0,none⟩)] w fun e w'=>e = .returned (.tuple #[])∧Put1 w g (addS a b) w':=by
 have hc:=hB.cell 0
 have hf:=hB.frozen 0
 simp only[List.getElem?_toArray,List.getElem?_cons_zero] at hc
 obtain⟨s,hs⟩:∃ s,wrap64 (a+b)=s:=⟨_,rfl⟩
 have hwr:(-9223372036854775808≤a+b∧a+b≤9223372036854775807∧s=a+b)∨(9223372036854775807<a+b∧s=a+b-18446744073709551616)∨(a+b < -9223372036854775808∧s=a+b+18446744073709551616):=by
  rw[← hs]
  unfold isI64 at ha hb
  unfold wrap64
  omega
 have HW:=Lib.hid hwr
 have HA:=Lib.hid ha
 have HB':=Lib.hid hb
 clear hwr ha hb hB
 have hq:addS a b=if 9223372036854775807<a+b then 9223372036854775807 else if a+b < -9223372036854775808 then -9223372036854775808 else a+b:=rfl
 have HQ:=Lib.hid hq
 clear hq
 rcases Bool.eq_false_or_eq_true (decide (0≤a)) with t1|t1 <;> rcases Bool.eq_false_or_eq_true (decide (0≤b)) with t2|t2 <;> rcases Bool.eq_false_or_eq_true (decide (s<0)) with t3|t3
 all_goals
  have n1:decide (a<0) = !decide (0≤a):=by by_cases h:0≤a <;> simp[h] <;> omega
  have n2:decide (b<0) = !decide (0≤b):=by by_cases h:0≤b <;> simp[h] <;> omega
  have n3:decide (0≤s) = !decide (s<0):=by by_cases h:0≤s <;> simp[h] <;> omega
  rw[t1] at n1
  rw[t2] at n2
  rw[t3] at n3
  simp only[Bool.not_true,Bool.not_false] at n1 n2 n3
  go_enter Tryz.func207,Tryz.ntmps207
  go_wp2_with fail
  go_end0
  refine⟨rfl,?_⟩
  unfold Put1
  rw[HQ.out]
  have h1:=HW.out
  have h2:=HA.out
  have h3:=HB'.out
  unfold isI64 at h2 h3
  simp only[decide_eq_true_eq,decide_eq_false_iff_not] at t1 t2 t3
  first
   | (rw[if_pos (by omega)])
   | (rw[if_neg (by omega),if_pos (by omega)])
   | (rw[if_neg (by omega),if_neg (by omega)];congr 2;omega)
theorem add_any(a b:Int)(v:Value)(w:World)(ha:isI64 a)(hb:isI64 b)(hs:Sl w v [.int .i64 b]):
  Calls Tryz.prog 151 #[.int .i64 a,v] w fun e w'=>e = .returned (.int .i64 (addS a b))∧Below w.heap.size w w':=by
 obtain⟨A,cap,rfl,hcap,hx⟩:=hs
 obtain⟨bk,off,rfl,hcell⟩:=hx (by simp)
 have hc0:=hcell 0 _ rfl
 have hlt:=cell_lt hc0
 simp only[List.length_cons,List.length_nil,Nat.zero_add,Nat.add_zero] at hc0 hcap hlt ⊢
 have HA:=Lib.hid ha
 have HB:=Lib.hid hb
 have HC:=Lib.hid hc0
 clear hcell hx ha hb hc0
 go_enter Tryz.func151,Tryz.ntmps151
 go_wp2_with fail
 go_loopw [11] (fun i wr=>∃ k:Nat,k≤1∧i = .int .i64 k∧Blk wr w.heap.size 2 #[.int .i64 (if k=0 then a else addS a b)]∧Below w.heap.size w wr) (fun i _=>1-(intOf i).toNat)
 case atStart=>exact⟨0,by omega,rfl,Blk.new _ _ _,(Below.refl _ _).alloc (Nat.le_refl _) _⟩
 case round=>
  obtain⟨k,hk,rfl,hB,hbl⟩:=hrel
  rcases Nat.lt_or_ge k 1 with hlt1|hge
  ·obtain rfl:k=0:=by omega
   rw[if_pos rfl] at hB
   have hc:=Below.cell' (w:=w) (w':=wr) ⟨hbl.os,hbl.tape,hbl.output,hbl.size,hbl.block⟩ HC.out
   have HBl:=Lib.hid hB
   have hbl2:=Lib.hid hbl
   clear hB hbl
   go_wp2_with (go_at_call 207;refine(add1_any a b w.heap.size _ wr HA.out HB.out HBl.out).mono ?_;rintro e w' ⟨rfl,rfl⟩)
   exact⟨⟨1,by omega,by go_num,by rw[if_neg (by omega)];exact HBl.set_ 0 _,hbl2.out.setCell (Nat.le_refl _) _⟩,by simp[intOf]⟩
  ·obtain rfl:k=1:=by omega
   rw[if_neg (by omega)] at hB
   have hc:=hB.cell 0
   simp only[List.getElem?_toArray,List.getElem?_cons_zero] at hc
   go_wp2_with fail
   go_ret
   exact⟨rfl,hbl⟩
theorem fAt_lenR(d:DiskD)(h:Nat)(L:LogD):∀ k es,(fAt d h L k).1=some es→es.length≤d.sec.length
 | 0,es,he=>by cases he
 | k+1,es,he=>by
  have ih:=fAt_lenR d h L k
  have h1:=scanL_len ((d.sec.drop (sFrom h k)).take h) (none,[])
  rw[List.length_take,List.length_drop] at h1
  have h2:(slotS d (sFrom h k) h).2.length≤d.sec.length:=by unfold slotS;simp at h1;omega
  unfold fAt fNext at he
  cases hg:(slotS d (sFrom h k) h).1 with
  | none=>rw[hg] at he;exact ih es he
  | some g=>
   rw[hg] at he
   simp only at he
   split at he
   ·exact ih es he
   ·injection he with he;rw[← he];exact h2
theorem openR_cases(d:DiskD):(∃ x,(openR d).1=some x∧(openR d).2.2=none)∨(∃ L es,(openR d).1=none∧(openR d).2.2=some (L,es)∧es.length≤d.sec.length):=by
 unfold openR
 split
 ·exact .inl ⟨_,rfl,rfl⟩
 ·split
  ·exact .inl ⟨_,rfl,rfl⟩
  ·unfold openS
   split
   ·rename_i es he
    exact .inr ⟨_,es,rfl,rfl,by have:=fAt_lenR _ _ _ _ es he;rw[syncS_len] at this;exact this⟩
   ·split
    ·exact .inl ⟨_,rfl,rfl⟩
    ·split
     ·exact .inl ⟨_,rfl,rfl⟩
     ·exact .inr ⟨_,[],rfl,rfl,Nat.zero_le _⟩
def CacheW(w w':World)(m':DiskM)(n:Nat)(r:Ans×DiskD×Option (LogD×List Ent2))(pc:Value)(now til:Int):Prop:=match r.2.2 with
 | none=>pc = .pointer none
 | some (L,es)=>∃ gc gl gi bi,pc = .pointer (some ⟨gc,0,none⟩)∧CK w' m' r.2.1 gc gl gi bi (n/2) es.length ⟨L,liveL (refOf es) now,til⟩∧w.heap.size≤gc∧w.heap.size≤gl∧w.heap.size≤gi∧w.heap.size≤bi∧∀ q∈es,EntOk q
theorem cache_built(gl gi:Nat)(t:Int):Tryz.prog.built 229 [(0,.pointer (some ⟨gl,0,none⟩)),(1,.pointer (some ⟨gi,0,none⟩)),(2,.int .i64 t)]=some (cacheC gl gi t):=by unfold cacheC;kernel_rfl
theorem c_open(skew now:Int)(w:World)(m:DiskM)(d:DiskD)(hk:DK w m d)(hr:d.room+10≤100000)(hl:d.sec.length≤1000)(hs:isI64 skew)(hn:isI64 now):
  Calls Tryz.prog 103 #[.pointer (some ⟨m.g,0,none⟩),.int .i64 skew,.int .i64 now] w fun e w'=>∃ pc m',e = .returned (.tuple #[pc,valE (openR d).1])∧DK w' m' (openR d).2.1∧DT w m w' m'∧CacheW w w' m' d.sec.length (openR d) pc now (addS now skew):=by
 have HO:=Lib.hid (log_open w m d hk hr)
 have HK:=Lib.hid hk
 have HSK:=Lib.hid hs
 have HNW:=Lib.hid hn
 clear hk hs hn
 obtain⟨g9,hg9⟩:∃ g,g=m.g:=⟨_,rfl⟩
 rw[← hg9] at HO ⊢
 clear hg9
 rcases openR_cases d with ⟨x,h1,h2⟩|⟨L,es,h1,h2,h3⟩
 ·rw[h1] at HO ⊢
  have H2:=Lib.hid h2
  obtain⟨ty,u,hv⟩:=valE_form x
  rw[hv] at HO ⊢
  have hne:=neq_nil ty u
  clear hv h1 h2
  go_enter Tryz.func103,Tryz.ntmps103
  go_wp2_with fail
  refine HO.mono ?_
  rintro e w1 ⟨pl,ve,m1,rfl,hk1,ht1,how⟩
  have HK1:=Lib.hid hk1
  have HT1:=Lib.hid ht1
  clear hk1 ht1 how HO
  go_wp2_with fail
  go_ret2
  exact⟨_,m1,rfl,HK1.out,HT1.out,by unfold CacheW;rw[H2.out];rfl⟩
 ·rw[h1] at HO ⊢
  have H2:=Lib.hid h2
  have hvn:valE none = .nilIface:=rfl
  rw[hvn] at HO ⊢
  clear h1 h2
  go_enter Tryz.func103,Tryz.ntmps103
  go_wp2_with fail
  refine HO.mono ?_
  rintro e w1 ⟨pl,ve,m1,rfl,hk1,ht1,how⟩
  unfold OpenW at how
  rw[H2.out] at how
  obtain⟨gl,rfl,hlk,hgl,hown,hok,hoa⟩:=how
  have HLK:=Lib.hid hlk
  have HT1:=Lib.hid ht1
  have HOK:=Lib.hid hok
  have HNE:=Lib.hid (xk_new ve es w1 (Sn.own hown) hok (by omega))
  have HGL:Hid (w.heap.size≤gl∧gl<w1.heap.size):=Lib.hid ⟨hgl,hlk.blk.lt⟩
  have HH:Hid (w.heap.size≤w1.heap.size):=Lib.hid ht1.fo.size
  clear hk1 ht1 hlk hok hown hoa hgl HO
  go_wp2_with fail
  refine HNE.mono ?_
  rintro e w2 ⟨gi,bi,rfl,hx2,hgi,hbi,hib,hb2⟩
  have HX2:=Lib.hid hx2
  have HB2:=Lib.hid hb2
  have HIB:Hid (w1.heap.size≤gi∧w1.heap.size≤bi∧gi≠bi∧gi<w2.heap.size∧bi<w2.heap.size):=Lib.hid ⟨hgi,hbi,hib,hx2.lt.1,hx2.lt.2⟩
  have HAD:=Lib.hid (fun W v (hv:Sl W v [.int .i64 skew])=>add_any now skew v W HNW.out HSK.out hv)
  clear hx2 hb2 hgi hbi hib HNE
  obtain⟨til,htil⟩:∃ t,t=addS now skew:=⟨_,rfl⟩
  have HTI:Hid (isI64 til):=Lib.hid (by rw[htil];exact addS_i64 now skew)
  rw[← htil] at HAD
  have HTL:=Lib.hid htil
  clear htil
  have HBL:=Lib.hid (cache_built gl gi til)
  have hsl:Sl (w2.alloc (.cells #[.int .i64 skew] 2)) (.slice (some ⟨w2.heap.size,0,none⟩) 1 1) [.int .i64 skew]:=
   ⟨some ⟨w2.heap.size,0,none⟩,1,rfl,by simp,fun _=>⟨w2.heap.size,0,rfl,(Blk.new w2 2 #[.int .i64 skew]).range⟩⟩
  have HSL:=Lib.hid hsl
  clear hsl
  go_wp2_with fail
  refine(HAD.out _ _ HSL.out).mono ?_
  rintro e w3 ⟨rfl,hb3⟩
  have HB3:Hid (Below w2.heap.size w2 w3):=Lib.hid (bstep (bel1 _ _) hb3)
  obtain⟨w4,hw4⟩:∃ w4,w4=w3.alloc (.cells (cacheC gl gi til) 229):=⟨_,rfl⟩
  obtain⟨gc,hgc⟩:∃ g,g=w3.heap.size:=⟨_,rfl⟩
  have HC4:Hid (Blk w4 gc 229 (cacheC gl gi til)):=Lib.hid (by rw[hw4,hgc];exact Blk.new _ _ _)
  have HB4:Hid (Below w2.heap.size w2 w4):=Lib.hid (bstep HB3.out (by rw[hw4];exact bel1 _ _))
  have HGC:Hid (w2.heap.size≤gc):=Lib.hid (by rw[hgc];exact HB3.size)
  have HX4:=Lib.hid (HX2.keep HB4.out)
  have HDR:=Lib.hid (xk_drop w4 gi bi es.length (refOf es) now HX4.out (by omega))
  obtain⟨_,c1,_⟩:=cache_cells HC4.out
  clear hb3 HAD HSL
  go_upto_region 5 with (refine bld 229 _ rfl rfl rfl HBL.out ?_)
  rw[← hw4,← hgc]
  clear hw4 hgc
  go_wp2_with fail
  refine HDR.mono ?_
  rintro e w5 ⟨kd,rfl,hx5,ho5⟩
  have HX5:=Lib.hid hx5
  have HO5:=Lib.hid ho5
  clear hx5 ho5 HDR c1
  go_wp2_with fail
  go_ret2
  have hlt:gc<w4.heap.size:=HC4.lt
  have hc4:=HC4.out
  rw[HTL.out] at hc4
  have hb2:=bstep HB2.out HB4.out
  have hbl:Below w1.heap.size w1 w4:=hb2
  have hi:=HIB.out
  have hg:=HGL.out
  have hbi:w1.heap.size≤bi:=hi.2.1
  have hlk4:=HLK.keep hbl
  have hgcw:w1.heap.size≤gc:=Nat.le_trans HB2.size HGC.out
  have hgs:=HGC.out
  have hk5:DK w5 m1 (openR d).2.1:=hlk4.dk.offO HO5.out (Apart.fresh HLK.dk hbi)
  refine⟨_,m1,rfl,hk5,HT1.trans (DT.of_below (hbl.trans (HO5.below hbi (Nat.le_trans hbl.size (Nat.le_refl _))))),?_⟩
  unfold CacheW
  rw[H2.out]
  refine⟨gc,gl,gi,bi,rfl,⟨⟨hk5,(HO5.block gl hlk4.blk.lt (by omega)).trans hlk4.blk,hlk4.ap,hlk4.ok⟩,(HO5.block gc hlt (by omega)).trans hc4,HX5.out,Apart.fresh HLK.dk hgcw,Apart.fresh HLK.dk hi.1,Apart.fresh HLK.dk hbi,⟨by omega,by omega,by omega,by omega,hi.2.2.1⟩,addS_i64 _ _⟩,by have:=HH.out;omega,hg.1,by have:=HH.out;omega,by have:=HH.out;omega,HOK.out⟩
section
variable {w0 w w' : World} {m m' : DiskM} {d d' : DiskD} {n n' : Nat} {cv : Value} {F : List Nat} {co : Option CacheD}
def CO(w0 w:World)(m:DiskM)(d:DiskD)(n:Nat)(cv:Value)(F:List Nat)(co:Option CacheD):Prop:=
 (cv = .pointer none∧F=[]∧co=none)∨(∃ gc gl gi bi C,cv = .pointer (some ⟨gc,0,none⟩)∧F=[gl,bi,gc,gi]∧co=some C∧CK w m d gc gl gi bi (d.sec.length/2) n C∧∀ b∈F,w0.heap.size≤b)
theorem CO.keep(h:CO w0 w m d n cv F co)(hb:Below w.heap.size w w'):CO w0 w' m d n cv F co:=
 h.imp id (fun⟨gc,gl,gi,bi,C,h1,h2,h3,h4,h5⟩=>⟨gc,gl,gi,bi,C,h1,h2,h3,h4.keep hb,h5⟩)
theorem CO.far(h:CO w0 w m d n cv F co):∀ b∈F,w0.heap.size≤b∧b<w.heap.size:=fun b hb=>by
 rcases h with ⟨_,h2,_⟩|⟨gc,gl,gi,bi,C,h1,h2,h3,h4,h5⟩
 ·rw[h2] at hb;cases hb
 ·refine⟨h5 b hb,?_⟩
  rw[h2] at hb
  have:=h4.ix.lt
  simp at hb
  rcases hb with rfl|rfl|rfl|rfl
  ·exact h4.lk.blk.lt
  ·exact this.2
  ·exact h4.blk.lt
  ·exact this.1
theorem CO.form(h:CO w0 w m d n cv F co):cv.oneCell'=true:=by
 rcases h with ⟨h1,_⟩|⟨gc,gl,gi,bi,C,h1,_⟩ <;> (rw[h1];rfl)
theorem CO.up(h:CO w0 w m d n cv F co)(hn:n≤n'):CO w0 w m d n' cv F co:=
 h.imp id (fun⟨gc,gl,gi,bi,C,h1,h2,h3,h4,h5⟩=>⟨gc,gl,gi,bi,C,h1,h2,h3,h4.up hn,h5⟩)
theorem CO.disk(h:CO w0 w m d n cv F co)(hk:DK w' m' d')(ht:DT w m w' m')(hl:d'.sec.length=d.sec.length):CO w0 w' m' d' n cv F co:=
 h.imp id (fun⟨gc,gl,gi,bi,C,h1,h2,h3,h4,h5⟩=>⟨gc,gl,gi,bi,C,h1,h2,h3,by rw[hl];exact h4.disk hk ht hl,h5⟩)
theorem CK.off{gc gl gi bi hh:Nat}{Cc:CacheD}{g:Nat}(k:CK w m d gc gl gi bi hh n Cc)(ho:Off g w w')(ha:Apart m g)(h1:g≠gl)(h2:g≠bi)(h3:g≠gc)(h4:g≠gi):CK w' m d gc gl gi bi hh n Cc:=
 ⟨⟨k.lk.dk.offO ho ha,ho.blk k.lk.blk (Ne.symm h1),k.lk.ap,k.lk.ok⟩,ho.blk k.blk (Ne.symm h3),k.ix.same (ho.block gi k.ix.lt.1 (Ne.symm h4)) (ho.block bi k.ix.lt.2 (Ne.symm h2)),k.ac,k.ai,k.ab,k.ne,k.i64⟩
end
end Go.Proofs.YtiaigidbcljblaaGreatDoor
