import Derived.Test.YtiaigidbcljblaaGreatDoorME15
import Derived.Test.YtiaigidbcljblaaGreatDoorME1
import Derived.ScopeJumps
import Derived.Test.YtiaigidbcljblaaGreatDoorME2
import Derived.Test.YtiaigidbcljblaaGreatDoorME14
set_option linter.unusedSimpArgs false
set_option maxRecDepth 100000
set_option maxHeartbeats 40000000
namespace Go.Proofs.YtiaigidbcljblaaGreatDoor
section
open Go.RowKit
attribute [local irreducible] wpQuiet wpAnyH
def tagS(s:List Int):Nat:=beN ((s.drop 60).take 4)
def lastN(d:DiskD):Nat→Nat
 | 0=>0
 | k+1=>max (lastN d k) (tagS (rdS d k))
theorem tagS_lt{s:List Int}(h:Sec s):tagS s<4294967296:=by
 have:=beN_lt ((s.drop 60).take 4) (fun c hc=>h.2 c (List.mem_of_mem_drop (List.mem_of_mem_take hc)))
 rw[List.length_take,List.length_drop,h.1] at this
 exact this
theorem lastN_lt{d:DiskD}(h:DOk d):∀ k,lastN d k<4294967296
 | 0=>by unfold lastN;omega
 | k+1=>by
  have h1:=lastN_lt h k
  have h2:=tagS_lt (rdS_sec h k)
  unfold lastN
  omega
structure LJ(d:DiskD)(g n:Nat)(w:World)(a':Act)(w':World):Prop where
 ex:∃(k x:Nat) (u6 u7 u8 u9 u10 u11 u12 u13 u14 u15 u16 u17 u18 u19 u20 u21 u22 u23 u24 u25 u26 u27 u28 u29 u30:Value),a'={ tmps:=#[.pointer (some ⟨g,0,none⟩),undef,.int .u32 0,.nilIface,.int .u32 (x:Int),.int .i64 (k:Int),u6,u7,u8,u9,u10,u11,u12,u13,u14,u15,u16,u17,u18,u19,u20,u21,u22,u23,u24,u25,u26,u27,u28,u29,u30],defers:=[] }∧k≤n∧Hid ((x:Int)=(lastN d k:Nat))∧Hid (Below w.heap.size w w')
theorem last_generation(w:World)(m:DiskM)(d:DiskD)(h:DK w m d)(hd:d.down=false):
  Calls Tryz.prog 203 #[.pointer (some ⟨m.g,0,none⟩)] w fun e w'=>e = .returned (.tuple #[.int .u32 (lastN d d.sec.length),.nilIface])∧Below w.heap.size w w':=by
 have HK:=Lib.hid h
 have hn:(d.sec.length:Int)≤4096:=by have:=h.ok.few;omega
 have HSZ:=Lib.hid (fun W (hb:Below w.heap.size w W)=>disk_size W m d (HK.keep hb))
 have HRD:=Lib.hid (fun W (hb:Below w.heap.size w W) (a:Int) (ha:isI64 a)=>disk_read a W m d (HK.keep hb) ha)
 have HE:Hid (∀ k:Nat,k<d.sec.length→rdE d k = .nilIface):=Lib.hid (fun k hk=>by unfold rdE hasB;rw[hd];simp;omega)
 obtain⟨g,hg⟩:∃ g,g=m.g:=⟨_,rfl⟩
 rw[← hg] at HSZ HRD ⊢
 obtain⟨n,hnn⟩:∃ n,n=d.sec.length:=⟨_,rfl⟩
 rw[← hnn] at HSZ HE hn ⊢
 have HSEC:Hid (∀ k:Nat,Sec (rdS d k)):=Lib.hid (fun k=>rdS_sec HK.ok k)
 have HLT:Hid (∀ k,lastN d k<4294967296):=Lib.hid (lastN_lt HK.ok)
 have hzl:z64.size=64:=z64_size
 clear h hd hg hnn
 go_enter Tryz.func203,Tryz.ntmps203
 go_wp2_with fail
 refine wp_scope_jumps 0 (LJ d g n w) (fun a' _=>n-(intOf (a'.tmps.getD 5 undef)).toNat) rfl ?_ ?_
 ·have HB:Hid (Below w.heap.size w w):=Lib.hid (Below.refl _ _)
  have HX:Hid ((0:Int)=(lastN d 0:Nat)):=Lib.hid rfl
  go_wp2_with fail
  go_step3
  go_wp2_with fail
  refine(HSZ.out w HB.out).mono ?_
  rintro e w2 ⟨rfl,hw2⟩
  rw[hw2]
  clear hw2 w2
  rcases Nat.lt_or_ge 0 n with hlt|hge
  ·have hki:((0:Int):Int)<n:=by omega
   have HR:=HRD.out w HB.out (0:Int) ⟨by omega,by omega⟩
   have hsec:=HSEC.out 0
   have HRE:=HE.out 0 hlt
   obtain⟨s,hs⟩:∃ s,s=rdS d (0:Int):=⟨_,rfl⟩
   have HS:Hid (s=rdS d (0:Nat)):=Lib.hid hs
   have hss:Sec s:=by rw[HS.out];exact hsec
   have HRE2:rdE d (0:Int) = .nilIface:=HRE
   rw[HRE2,← hs] at HR
   have HS3:Hid (64=(u8s s).toArray.size∧(u8s s).toArray.all (·.oneCell')=true∧(Tryz.prog.info? 243).map (·.size)=some (u8s s).toArray.size):=Lib.hid ⟨by simp[sec_length hss],u8s_one s,by simp only[List.size_toArray,sec_length hss];kernel_rfl⟩
   have HSS:=Lib.hid hss
   have HRR:=Lib.hid HR
   obtain⟨T,hT⟩:∃ T,T=tagS s:=⟨_,rfl⟩
   have HTL:Hid (T<4294967296):=Lib.hid (by rw[hT];exact tagS_lt hss)
   have HTG:=Lib.hid (fun W=>frame_tag s W HSS.out.1 HSS.out.2)
   have HT:Hid (T=tagS s):=Lib.hid hT
   have hTe:beN ((s.drop 60).take 4)=T:=hT.symm
   rw[hTe] at HTG
   clear hs hss hsec HRE HRE2 HR hT hTe
   go_upto_region 5 with (first
    | (go_at_call 261;refine HRR.mono ?_;rintro e w3 ⟨rfl,hb3⟩)
    | (refine al 243 z64 rfl rfl zero64 ?_)
    | (refine stNew 243 (.tmp 6) (.tmp 17) rfl rfl rfl rfl HS3.out.2.2 (by rw[hzl];exact HS3.out.1) HS3.out.2.1 ?_;intro w4 hB4 hb4 hs4))
   obtain⟨gs,hgs⟩:∃ gs,gs=w3.heap.size:=⟨_,rfl⟩
   have HBS:Hid (Blk w4 gs 243 (u8s s).toArray):=Lib.hid (by rw[hgs];exact hB4)
   have HB4:Hid (Below w.heap.size w w4):=Lib.hid (bstep (bstep HB.out hb3) hb4)
   rw[← hgs]
   have HRG:Hid (w4.rangeAt gs 0 (u8s s)):=Lib.hid (by have h:=HBS.range;rwa [List.toList_toArray] at h)
   have hinc:IntKind.i64.wrap ((0:Int)+1)=((0+1:Nat):Int):=by rw[IntWalk.i64_in _ (by omega)];omega
   clear hB4 hb4 hs4 hb3 hgs HRR
   have hiw:(0:Int)+1≤9223372036854775807:=by omega
   have hTi:(T:Int)≤4294967295:=by have:=HTL.out;omega
   go_upto_region 9 with (first
    | (refine ld 243 _ rfl rfl rfl HRG.out Tryz.underlying243 rfl (by simpa using HS3.out.2.2) ?_)
    | (go_at_call 262;refine(HTG.out w4).mono ?_;rintro e w5 ⟨rfl,hb5⟩))
   have HB5:Hid (Below w.heap.size w w5):=Lib.hid (bstep HB4.out hb5)
   clear hb5
   rcases Int.lt_or_le (0:Int) (T:Int) with hgt|hle
   ·have HX1:Hid ((T:Int)=(lastN d (0+1):Nat)):=Lib.hid (by
     have h2:tagS (rdS d ((0:Nat):Int))=T:=by rw[HT.out,HS.out]
     have h1:lastN d (0+1)=max (lastN d 0) T:=by rw[← h2];rfl
     rw[h1]
     have:=HX.out
     omega)
    go_wp2_with fail
    go_step3
    refine⟨rfl,⟨0+1,(lastN d (0+1)),_,_,_,_,_,_,_,_,_,_,_,_,_,_,_,_,_,_,_,_,_,_,_,_,_,by rw[← HX1.out];rfl,by omega,Lib.hid rfl,HB5⟩⟩
   ·have HX1:Hid ((0:Int)=(lastN d (0+1):Nat)):=Lib.hid (by
     have h2:tagS (rdS d ((0:Nat):Int))=T:=by rw[HT.out,HS.out]
     have h1:lastN d (0+1)=max (lastN d 0) T:=by rw[← h2];rfl
     rw[h1]
     have:=HX.out
     omega)
    go_wp2_with fail
    go_step3
    refine⟨rfl,⟨0+1,(lastN d (0+1)),_,_,_,_,_,_,_,_,_,_,_,_,_,_,_,_,_,_,_,_,_,_,_,_,_,by rw[← HX1.out];rfl,by omega,Lib.hid rfl,HB5⟩⟩
  ·have hki:(n:Int)≤(0:Int):=by omega
   go_wp2_with fail
   simp only[Exit.jump]
   refine bodyPost_ret (results_tmp2 rfl _ _ _) rfl ?_
   have hkn:n=0:=by omega
   exact⟨by rw[hkn,← HX.out];rfl,HB.out⟩
 ·rintro a' wr ⟨k,x,u6,u7,u8,u9,u10,u11,u12,u13,u14,u15,u16,u17,u18,u19,u20,u21,u22,u23,u24,u25,u26,u27,u28,u29,u30,rfl,hk,HX,HB⟩
  have hx1:(x:Int)≤4294967295:=by have:=HX.out;have:=HLT.out k;omega
  have hk0:(0:Int)≤k:=by omega
  have hk1:(k:Int)≤n:=by omega
  go_wp2_with fail
  refine(HSZ.out wr HB.out).mono ?_
  rintro e w2 ⟨rfl,hw2⟩
  rw[hw2]
  clear hw2 w2
  rcases Nat.lt_or_ge k n with hlt|hge
  ·have hki:((k:Int):Int)<n:=by omega
   have HR:=HRD.out wr HB.out (k:Int) ⟨by omega,by omega⟩
   have hsec:=HSEC.out k
   have HRE:=HE.out k hlt
   obtain⟨s,hs⟩:∃ s,s=rdS d (k:Int):=⟨_,rfl⟩
   have HS:Hid (s=rdS d (k:Nat)):=Lib.hid hs
   have hss:Sec s:=by rw[HS.out];exact hsec
   have HRE2:rdE d (k:Int) = .nilIface:=HRE
   rw[HRE2,← hs] at HR
   have HS3:Hid (64=(u8s s).toArray.size∧(u8s s).toArray.all (·.oneCell')=true∧(Tryz.prog.info? 243).map (·.size)=some (u8s s).toArray.size):=Lib.hid ⟨by simp[sec_length hss],u8s_one s,by simp only[List.size_toArray,sec_length hss];kernel_rfl⟩
   have HSS:=Lib.hid hss
   have HRR:=Lib.hid HR
   obtain⟨T,hT⟩:∃ T,T=tagS s:=⟨_,rfl⟩
   have HTL:Hid (T<4294967296):=Lib.hid (by rw[hT];exact tagS_lt hss)
   have HTG:=Lib.hid (fun W=>frame_tag s W HSS.out.1 HSS.out.2)
   have HT:Hid (T=tagS s):=Lib.hid hT
   have hTe:beN ((s.drop 60).take 4)=T:=hT.symm
   rw[hTe] at HTG
   clear hs hss hsec HRE HRE2 HR hT hTe
   go_upto_region 5 with (first
    | (go_at_call 261;refine HRR.mono ?_;rintro e w3 ⟨rfl,hb3⟩)
    | (refine al 243 z64 rfl rfl zero64 ?_)
    | (refine stNew 243 (.tmp 6) (.tmp 17) rfl rfl rfl rfl HS3.out.2.2 (by rw[hzl];exact HS3.out.1) HS3.out.2.1 ?_;intro w4 hB4 hb4 hs4))
   obtain⟨gs,hgs⟩:∃ gs,gs=w3.heap.size:=⟨_,rfl⟩
   have HBS:Hid (Blk w4 gs 243 (u8s s).toArray):=Lib.hid (by rw[hgs];exact hB4)
   have HB4:Hid (Below w.heap.size w w4):=Lib.hid (bstep (bstep HB.out hb3) hb4)
   rw[← hgs]
   have HRG:Hid (w4.rangeAt gs 0 (u8s s)):=Lib.hid (by have h:=HBS.range;rwa [List.toList_toArray] at h)
   have hinc:IntKind.i64.wrap ((k:Int)+1)=((k+1:Nat):Int):=by rw[IntWalk.i64_in _ (by omega)];omega
   clear hB4 hb4 hs4 hb3 hgs HRR
   have hiw:(k:Int)+1≤9223372036854775807:=by omega
   have hTi:(T:Int)≤4294967295:=by have:=HTL.out;omega
   go_upto_region 9 with (first
    | (refine ld 243 _ rfl rfl rfl HRG.out Tryz.underlying243 rfl (by simpa using HS3.out.2.2) ?_)
    | (go_at_call 262;refine(HTG.out w4).mono ?_;rintro e w5 ⟨rfl,hb5⟩))
   have HB5:Hid (Below w.heap.size w w5):=Lib.hid (bstep HB4.out hb5)
   clear hb5
   rcases Int.lt_or_le (x:Int) (T:Int) with hgt|hle
   ·have HX1:Hid ((T:Int)=(lastN d (k+1):Nat)):=Lib.hid (by
     have h2:tagS (rdS d ((k:Nat):Int))=T:=by rw[HT.out,HS.out]
     have h1:lastN d (k+1)=max (lastN d k) T:=by rw[← h2];rfl
     rw[h1]
     have:=HX.out
     omega)
    go_wp2_with fail
    go_step3
    refine⟨rfl,⟨⟨k+1,(lastN d (k+1)),_,_,_,_,_,_,_,_,_,_,_,_,_,_,_,_,_,_,_,_,_,_,_,_,_,by rw[← HX1.out];rfl,by omega,Lib.hid rfl,HB5⟩⟩,?_⟩
    simp[intOf]
    omega
   ·have HX1:Hid ((x:Int)=(lastN d (k+1):Nat)):=Lib.hid (by
     have h2:tagS (rdS d ((k:Nat):Int))=T:=by rw[HT.out,HS.out]
     have h1:lastN d (k+1)=max (lastN d k) T:=by rw[← h2];rfl
     rw[h1]
     have:=HX.out
     omega)
    have t9:decide (x<T)=false:=by simp only[decide_eq_false_iff_not];omega
    clear hle
    go_wp2_with fail
    go_step3
    refine⟨rfl,⟨⟨k+1,(lastN d (k+1)),_,_,_,_,_,_,_,_,_,_,_,_,_,_,_,_,_,_,_,_,_,_,_,_,_,by rw[← HX1.out];rfl,by omega,Lib.hid rfl,HB5⟩⟩,?_⟩
    simp[intOf]
    omega
  ·have hki:(n:Int)≤(k:Int):=by omega
   go_wp2_with fail
   simp only[Exit.jump]
   refine bodyPost_ret (results_tmp2 rfl _ _ _) rfl ?_
   have hkn:n=k:=by omega
   exact⟨by rw[hkn,← HX.out];rfl,HB.out⟩
end
section
open Go.RowKit
section
variable {P : Program} {ops : Array Oper} {Q : Exit → Act → World → Prop} {S : World → Prop} {a : Act} {w : World} {listed : Array Bool} {fuel : Nat}
def kTwo(ops:Array Oper)(listed:Array Bool)(i j:Nat):Bool:=
 (Region.ready .any ops listed == [i,j]) && ((ops[i]?).map (fun o=>o.guard.isNone)).any (· == true) && ((ops[j]?).map (fun o=>o.guard.isNone)).any (· == true)
theorem wanted_free{o:Oper}(h:o.guard=none)(ys:Array Value):Region.wanted o (yielded ops ys)=true:=by
 unfold Region.wanted
 rw[h]
theorem kTwo.out{i j:Nat}{oi oj:Oper}(hi:ops[i]? = some oi)(hj:ops[j]? = some oj)(h:kTwo ops listed i j=true):
  Region.ready .any ops listed=[i,j]∧oi.guard=none∧oj.guard=none:=by
 unfold kTwo at h
 simp only[Bool.and_eq_true,hi,hj,Option.map_some,Option.any_some,beq_iff_eq,Option.isNone_iff_eq_none] at h
 exact⟨h.1.1,h.1.2,h.2⟩
theorem run_allocK{ty:TypeId}{zs:Array Value}(hz:∀ w,(zeroValue ty).run P w = .ok (.agg zs) w){o:Oper}(hop:o.op = .alloc ty)(e:Operand→Value)(w:World):
  (execOp e o).run P w = .ok (.value (.pointer (some ⟨w.heap.size,0,none⟩))) (w.alloc (.cells zs ty)):=by
 unfold execOp
 simp only[hop]
 unfold Instr.alloc newVar newRow
 simp only[Sem.run_bind,hz,Result.andThen_ok]
 rfl
theorem kCA(i j:Nat)(di dj:Option Tmp){oi oj:Oper}{f:FuncId}{args zs:Array Value}{ty:TypeId}
  (hz:∀ w,(zeroValue ty).run P w = .ok (.agg zs) w)
  (h1:Calls P f args w fun e w'=>∃ v,e = .returned v∧S w'∧(S w'→wpAnyH P .any ops Q S fuel (listed.setIfInBounds i true) (a.put di v) w'))
  (hS:S (w.alloc (.cells zs ty)))
  (h2:wpAnyH P .any ops Q S fuel (listed.setIfInBounds j true) (a.put dj (.pointer (some ⟨w.heap.size,0,none⟩))) (w.alloc (.cells zs ty)))
  (hi:ops[i]? = some oi:=by rfl) (hj:ops[j]? = some oj:=by rfl) (hdi:oi.dst=di:=by rfl) (hdj:oj.dst=dj:=by rfl) (hop:oj.op = .alloc ty:=by rfl) (hc:kTwo ops listed i j=true:=by kernel_rfl)
  (hent:∀ w,(execOp a.eval oi).run P w = .ok (.enter f args) w:=by intro w;unfold execOp;go_simp):wpAnyH P .any ops Q S (fuel+1) listed a w:=by
 subst hdi hdj
 obtain⟨r0,gi,gj⟩:=kTwo.out hi hj hc
 refine wpAnyH_ready r0 (by simp) (AllReadyH.cons hi (fun K hK=>?_) (AllReadyH.cons hj (fun K hK=>?_) AllReadyH.nil))
 ·rw[if_pos (wanted_free gi _)]
  unfold Oper.wp
  rw[hent,Oper.upon_enter]
  refine h1.mono ?_
  rintro e w' ⟨v,rfl,hS1,hk⟩
  exact hK.out _ _ hS1 hk
 ·rw[if_pos (wanted_free gj _)]
  unfold Oper.wp
  rw[run_allocK hz hop,Oper.upon_value]
  exact hK.out _ _ hS (fun _=>h2)
theorem kA(i:Nat)(dst:Option Tmp){zs:Array Value}{ty:TypeId}(hz:∀ w,(zeroValue ty).run P w = .ok (.agg zs) w)(hS:S (w.alloc (.cells zs ty)))
  (h:wpAnyH P .any ops Q S fuel (listed.setIfInBounds i true) (a.put dst (.pointer (some ⟨w.heap.size,0,none⟩))) (w.alloc (.cells zs ty)))
  {o:Oper} (ho:ops[i]? = some o:=by rfl) (hdst:o.dst=dst:=by rfl) (hop:o.op = .alloc ty:=by rfl) (hc:kOne ops listed a i=true:=by kernel_rfl):wpAnyH P .any ops Q S (fuel+1) listed a w:=by
 subst hdst
 have k:=kOne.out ho hc
 refine wpAnyH_ready k.1 (by simp) (AllReadyH.cons ho (fun K hK=>?_) AllReadyH.nil)
 rw[if_pos k.2]
 unfold Oper.wp
 rw[run_allocK hz hop,Oper.upon_value]
 exact hK.out _ _ hS (fun _=>h)
end
end
section
open Go.RowKit
attribute [local irreducible] wpQuiet wpAnyH
def slotS(d:DiskD)(f h:Nat):SSt:=scanL (none,[]) ((d.sec.drop f).take h)
abbrev FSt:=Option (List Ent2)×LogD
def fNext(k:Nat)(S:SSt)(p:FSt):FSt:=match S.1 with
 | none=>p
 | some g=>if p.1.isSome && decide (g≤p.2.gen) then p else (some S.2,{ p.2 with side:=k,gen:=g,cnt:=S.2.length })
def fAt(d:DiskD)(h:Nat)(L:LogD):Nat→FSt
 | 0=>(none,L)
 | k+1=>fNext k (slotS d (sFrom h k) h) (fAt d h L k)
theorem setCells_all{w:World}{g:Nat}{t:TypeId}{old:Array Value}{new:List Value}(hB:Blk w g t old)(hl:old.size=new.length):
  Blk (w.setCells g 0 new) g t new.toArray∧Off g w (w.setCells g 0 new)∧(w.setCells g 0 new).heap.size=w.heap.size:=by
 have h:=setCells_partM (t:=t) [] old.toList [] new (by simpa using hB) (by simpa using hl)
 simpa using h
theorem eq_nilL:∀ w,(binOp .neq 42 .nilIface .nilIface).run Tryz.prog w = .ok (.bool false) w:=fun w=>by kernel_rfl
theorem stC_one3(st:SSt)(A:Option Addr)(n cap:Nat):∀ u∈(stC st (.slice A n cap)).toList,u.oneCell'=true:=fun u hu=>by
 simp only[stC,List.mem_cons,List.not_mem_nil,or_false] at hu
 rcases hu with rfl|rfl|rfl <;> rfl
structure FR(w wr:World)(m:DiskM)(d:DiskD)(gl h:Nat)(p:FSt)(v:Value):Prop where
 dk:DK wr m d
 blk:Blk wr gl 327 (logC m.g h p.2)
 own:wr.ownsRow w.heap.size 172 33 v (p.1.getD []).length ((p.1.getD []).flatMap entP)
 ok:∀ q∈p.1.getD [],EntOk q
 fo:Fo [gl] w wr
theorem FR.keep{w wr wx:World}{m:DiskM}{d:DiskD}{gl h:Nat}{p:FSt}{v:Value}(k:FR w wr m d gl h p v)(hb:Below wr.heap.size wr wx):FR w wx m d gl h p v:=
 ⟨k.dk.keep hb,k.blk.keep hb,own_below k.own hb,k.ok,k.fo.trans_same (Fo.of_below hb)⟩
theorem FR.put{w wr wx wy:World}{m:DiskM}{d:DiskD}{gl h:Nat}{p:FSt}{v vE:Value}(k:FR w wr m d gl h p v)(hb:Below wr.heap.size wr wx)(es:List Ent2)(L:LogD)(ha:Apart m gl)(hg:gl<w.heap.size)
  (ho:wx.ownsRow w.heap.size 172 33 vE es.length (es.flatMap entP)) (hok:∀ q∈es,EntOk q) (hy:∀ j,j≠gl→wy.heap[j]? = wx.heap[j]?) (hyb:Blk wy gl 327 (logC m.g h L)) (hys:wy.heap.size=wx.heap.size) (hyo:wy.os=wx.os∧wy.tape=wx.tape∧wy.output=wx.output):
  FR w wy m d gl h (some es,L) vE:=
 ⟨(k.dk.keep hb).offK hy (by omega) ha,hyb,own_blk ho (fun b e=>hy b (by have:=(ho.lt b e).1;omega)),hok,
  ⟨hyo.1.trans (hb.os.trans k.fo.os),hyo.2.1.trans (hb.tape.trans k.fo.tape),hyo.2.2.trans (hb.output.trans k.fo.output),by rw[hys];exact Nat.le_trans k.fo.size hb.size,fun j hj hn=>by
   have hne:j≠gl:=fun e=>hn (by simp[e])
   rw[hy j hne,hb.block j (by have:=k.fo.size;omega)]
   exact k.fo.block j hj hn⟩⟩
structure FX(w wx:World)(m:DiskM)(d:DiskD)(gl h:Nat)(p:FSt)(v:Value)(SS:SSt)(gS:Nat)(vE:Value):Prop where
 fr:FR w wx m d gl h p v
 st:Blk wx gS 392 (stC SS vE)
 own:wx.ownsRow w.heap.size 172 33 vE SS.2.length (SS.2.flatMap entP)
 ok:∀ q∈SS.2,EntOk q
theorem FR.cut{w wS w5:World}{m:DiskM}{d:DiskD}{gl h:Nat}{p:FSt}{v:Value}(k:FR w wS m d gl h p v){SS:SSt}{gS:Nat}{vE:Value}(hBS:Blk w5 gS 392 stZ)
  (HST:Blk (w5.setCells gS 0 (stC SS vE).toList) gS 392 (stC SS vE).toList.toArray∧Off gS w5 (w5.setCells gS 0 (stC SS vE).toList)∧(w5.setCells gS 0 (stC SS vE).toList).heap.size=w5.heap.size)
  (hoS:w5.ownsRow wS.heap.size 172 33 vE SS.2.length (SS.2.flatMap entP)) (hbS:Below wS.heap.size wS w5) (hgS:wS.heap.size≤gS) (hnS:∀ b,vE.ownBlock=some b→b≠gS) (hok:∀ q∈SS.2,EntOk q):
  FX w (w5.setCells gS 0 (stC SS vE).toList) m d gl h p v SS gS vE:=
 have hlt:=hBS.lt
 ⟨k.keep (hbS.trans ⟨HST.2.1.os,HST.2.1.tape,HST.2.1.output,Nat.le_of_eq HST.2.2.symm,fun j hj=>HST.2.1.block j (by have:=hbS.size;omega) (by omega)⟩),HST.1,
  own_base (own_blk hoS (fun b e=>HST.2.1.block b (hoS.lt b e).2 (hnS b e))) k.fo.size,hok⟩
theorem fNext_none{k:Nat}{S:SSt}{p:FSt}(h:S.1=none):fNext k S p=p:=by unfold fNext;rw[h]
theorem fNext_new{k:Nat}{S:SSt}{p:FSt}{g:Nat}(h:S.1=some g)(hp:p.1=none∨p.2.gen<g):fNext k S p=(some S.2,{ p.2 with side:=k,gen:=g,cnt:=S.2.length }):=by
 unfold fNext
 rw[h]
 rcases hp with hp|hp
 ·simp[hp]
 ·have:¬g≤p.2.gen:=by omega
  simp[this]
theorem fNext_old{k:Nat}{S:SSt}{p:FSt}{g:Nat}(h:S.1=some g){es:List Ent2}(hp:p.1=some es)(hg:g≤p.2.gen):fNext k S p=p:=by
 unfold fNext
 rw[h]
 simp[hp,hg]
theorem scanL_len:∀(L:List (List Int)) (st:SSt),(scanL st L).2.length≤st.2.length+L.length
 | [],st=>by simp[scanL]
 | s :: L,st=>by
  rw[scanL]
  cases hq:stepS st s with
  | none=>simp only;omega
  | some st'=>
   have:=scanL_len L st'
   have h2:=(stepS_len hq).1
   simp only[List.length_cons]
   omega
theorem logset{w:World}{gl g h:Nat}{L:LogD}(hB:Blk w gl 327 (logC g h L))(s gn c:Nat):
  Blk (((w.setCell ⟨gl,5,none⟩ (.int .i64 s)).setCell ⟨gl,7,none⟩ (.int .u32 gn)).setCell ⟨gl,8,none⟩ (.int .i64 c)) gl 327 (logC g h { L with side:=s,gen:=gn,cnt:=c }):=by
 have h1:=((hB.set_ 5 (.int .i64 s)).set_ 7 (.int .u32 gn)).set_ 8 (.int .i64 c)
 exact h1
theorem log_find(w:World)(m:DiskM)(d:DiskD)(gl h:Nat)(L:LogD)(hk:DK w m d)(hb:Blk w gl 327 (logC m.g h L))(ha:Apart m gl)(hd:d.down=false)(ho:d.opn=[])(hh:h+h≤d.sec.length):
  Calls Tryz.prog 204 #[.pointer (some ⟨gl,0,none⟩)] w fun e w'=>∃ v,e = .returned (.tuple #[v,.bool (fAt d h L 2).1.isSome,.nilIface])∧FR w w' m d gl h (fAt d h L 2) v:=by
 have hlen4:=hk.ok.few
 have HAP:=Lib.hid ha
 have hgl:=hb.lt
 have HFR0:Hid (FR w w m d gl h (fAt d h L 0) (.slice none 0 0)):=Lib.hid ⟨hk,hb,World.ownsRow_nil _ _ _ _,fun q hq=>by simp[fAt] at hq,Fo.refl⟩
 have HSC:Hid (∀ W f,DK W m d→f≤h→Calls Tryz.prog 263 #[.pointer (some ⟨m.g,0,none⟩),.agg #[.int .i64 (f:Nat),.int .i64 h]] W fun e w'=>Below W.heap.size W w'∧∃ v,e = .returned (.tuple #[.agg (stC (slotS d f h) v),.nilIface])∧w'.ownsRow W.heap.size 172 33 v (slotS d f h).2.length ((slotS d f h).2.flatMap entP)∧∀ q∈(slotS d f h).2,EntOk q):=Lib.hid (fun W f hkW hf=>by
  have h1:=slot_scan (f:Nat) h W m d hkW ⟨by omega,by omega⟩ (by omega)
  rw[secs_still hd ho h (f:Nat) (by omega) (by simp;omega),scan_still,Int.toNat_natCast] at h1
  exact h1)
 have HSL:Hid (∀ f,(slotS d f h).2.length≤h):=Lib.hid (fun f=>by
  have:=scanL_len ((d.sec.drop f).take h) (none,[])
  rw[List.length_take] at this
  unfold slotS
  simp at this
  omega)
 have HFA:Hid (∀ k,fAt d h L (k+1)=fNext k (slotS d (sFrom h k) h) (fAt d h L k)):=Lib.hid (fun k=>rfl)
 have HF0:Hid ((fAt d h L 0).1=none):=Lib.hid rfl
 have hst:Tryz.prog.built 392 []=some stZ:=builtS
 have hh1:(h:Int)≤4096:=by omega
 clear hk hb hd ho ha
 obtain⟨g9,hg9⟩:∃ g9,g9=m.g:=⟨_,rfl⟩
 have HG9:Hid (m.g=g9):=Lib.hid hg9.symm
 have HB0:Hid (Blk w gl 327 (logC g9 h L)):=Lib.hid (by rw[hg9];exact HFR0.blk)
 have HR0:Hid (w.rangeAt gl 1 [.int .i64 0,.int .i64 h,.int .i64 h,.int .i64 h]):=Lib.hid (fun j u hj=>by
  rw[HB0.cell]
  match j with
  | 0=>simpa [logC] using hj
  | 1=>simpa [logC] using hj
  | 2=>simpa [logC] using hj
  | 3=>simpa [logC] using hj
  | j+4=>simp at hj)
 rw[← hg9] at HSC
 clear hg9
 go_enter Tryz.func204,Tryz.ntmps204
 go_upto_region 3 with fail
 go_upto_region 4 with (refine ld 325 _ rfl rfl rfl HR0.out Tryz.underlying325 rfl (by kernel_rfl) ?_)
 go_loopw [5,6,15] (fun f v i wr=>∃ k:Nat,k≤2∧i = .int .i64 (k:Int)∧f = .bool (fAt d h L k).1.isSome∧Hid (FR w wr m d gl h (fAt d h L k) v)) (fun _ _ i _=>2-(intOf i).toNat)
 case atStart=>exact⟨0,by omega,rfl,rfl,HFR0⟩
 case round=>
  obtain⟨k,hk,rfl,rfl,HR⟩:=hrel
  have hgr:gl<wr.heap.size:=HR.blk.lt
  have hk3:k=0∨k=1∨k=2:=by omega
  rcases hk3 with rfl|rfl|rfl
  ·obtain⟨p,hp⟩:∃ p,p=fAt d h L 0:=⟨_,rfl⟩
   obtain⟨SS,hSS⟩:∃ SS,SS=slotS d 0 h:=⟨_,rfl⟩
   have HSS2:Hid (SS.2.length≤h):=Lib.hid (by rw[hSS];exact HSL.out _)
   have HFX:Hid (fAt d h L 1=fNext 0 SS p):=Lib.hid (by rw[hSS,hp];exact HFA.out 0)
   have HCL:=Lib.hid (fun W hkW=>HSC.out W 0 hkW (by omega))
   rw[← hSS] at HCL
   rw[← hp] at HR ⊢
   have HF:Hid (p.1=none):=Lib.hid (by rw[hp];exact HF0.out)
   clear hSS hp
   have HFI:Hid (p.1.isSome=false):=Lib.hid (by rw[HF.out];rfl)
   rw[HFI.out]
   have hix:∀ w,(Instr.index 325 (.agg #[.int .i64 0,.int .i64 h,.int .i64 h,.int .i64 h]) (.int .i64 0)).run Tryz.prog w = .ok (.agg #[.int .i64 0,.int .i64 h]) w:=fun w=>by kernel_rfl
   go_upto_region 6 with fail
   obtain⟨w2,hw2⟩:∃ w2,w2=wr.alloc (.cells #[.int .i64 0,.int .i64 h] 324):=⟨_,rfl⟩
   have hB2:Blk w2 wr.heap.size 324 #[.int .i64 0,.int .i64 h]:=by rw[hw2];exact Blk.new _ _ _
   have hb2:Below wr.heap.size wr w2:=by rw[hw2];exact bel1 _ _
   rw[← hw2]
   clear hw2
   obtain⟨g8,hg8⟩:∃ g8,g8=wr.heap.size:=⟨_,rfl⟩
   rw[← hg8] at hB2 ⊢
   have HB82:Hid (Blk w2 g8 324 #[.int .i64 0,.int .i64 h]):=Lib.hid hB2
   have HR2:=Lib.hid (HR.keep hb2)
   clear hB2 hb2 hg8
   go_cut [9,10] from 19 to 27 (fun x y wx=>∃ gS A2 c2,x = .pointer (some ⟨gS,0,none⟩)∧y = .nilIface∧Hid (FX w wx m d gl h p u6 SS gS (.slice A2 SS.2.length c2)))
   case first=>
    obtain⟨wS,hwS⟩:∃ wS,wS=w2.drew:=⟨_,rfl⟩
    have HRS:=Lib.hid (HR2.keep (Below.refl _ _).drew)
    rw[← hwS] at HRS
    have HB1:Hid (Blk wS gl 327 (logC g9 h p.2)):=Lib.hid (by rw[← HG9.out];exact HRS.blk)
    have HB8:Hid (Blk wS g8 324 #[.int .i64 0,.int .i64 h]):=Lib.hid (by rw[hwS];exact HB82.keep (Below.refl _ _).drew)
    refine kZ (n:=12) (fun W=>Blk W gl 327 (logC g9 h p.2)∧Blk W g8 324 #[.int .i64 0,.int .i64 h]) (by rw[← hwS];exact⟨HB1.out,HB8.out⟩) (h:=fun hH=>?_)
    rw[← hwS] at hH ⊢
    clear hwS
    refine kM 0 (some 20) (.pointer (some ⟨gl,0,none⟩)) (h:=?_)
    simp only[p1,p2,p3,p4,p5]
    refine kT 1 (some 21) (.pointer (some ⟨gl,0,none⟩)) (h:=?_)
    simp only[p1,p2,p3,p4,p5]
    refine kT 2 (some 22) (.pointer (some ⟨gl,0,none⟩)) (h:=?_)
    simp only[p1,p2,p3,p4,p5]
    refine kC 3 (some 23) (v:=.pointer (some ⟨g9,0,none⟩)) (fun _ hX=>(hX.1.cell 0).trans rfl) (h:=?_)
    simp only[p1,p2,p3,p4,p5]
    refine kL 4 (some 24) (cs:=[.int .i64 0,.int .i64 h]) (fun _ hX=>hX.2.range) (rfl) (h:=?_)
    simp only[p1,p2,p3,p4,p5]
    refine kCA 5 9 (some 25) (some 9) (zs:=stZ) zeroS ((HCL.out wS HRS.dk).mono ?_) ⟨hH.1.alloc _,hH.2.alloc _⟩ ?_
    ·rintro e w6 ⟨hb6,vE,rfl,ho6,hokS⟩
     obtain⟨A2,c2,rfl,_⟩:=Sn.own ho6
     refine⟨_,rfl,⟨hH.1.keep hb6,hH.2.keep hb6⟩,fun hH6=>?_⟩
     simp only[p1,p2,p3,p4,p5]
     refine kM 6 (some 19) (.tuple #[.agg (stC SS (.slice A2 SS.2.length c2)),.nilIface]) (h:=?_)
     simp only[p1,p2,p3,p4,p5]
     refine kT 7 (some 26) (.agg (stC SS (.slice A2 SS.2.length c2))) (h:=?_)
     simp only[p1,p2,p3,p4,p5]
     refine kT 8 (some 27) (.nilIface) (h:=?_)
     simp only[p1,p2,p3,p4,p5]
     refine kA 9 (some 9) (zs:=stZ) zeroS ⟨hH6.1.alloc _,hH6.2.alloc _⟩ (h:=?_)
     simp only[p1,p2,p3,p4,p5]
     obtain⟨w5,hw5⟩:∃ w5,w5=w6.alloc (.cells stZ 392):=⟨_,rfl⟩
     obtain⟨gS,hgs⟩:∃ gS,gS=w6.heap.size:=⟨_,rfl⟩
     have hBS:Blk w5 gS 392 stZ:=by rw[hw5,hgs];exact Blk.new _ _ _
     have hb65:Below w6.heap.size w6 w5:=by rw[hw5];exact bel1 _ _
     have hoS:=own_below ho6 hb65
     have hbS:Below wS.heap.size wS w5:=bstep hb6 hb65
     have hgS:wS.heap.size≤gS:=by rw[hgs];exact hb6.size
     have hnS:∀ b,(Value.slice A2 SS.2.length c2).ownBlock=some b→b≠gS:=fun b e=>by have:=(ho6.lt b e).2;omega
     have hH5:Blk w5 gl 327 (logC g9 h p.2)∧Blk w5 g8 324 #[.int .i64 0,.int .i64 h]:=⟨hH6.1.keep hb65,hH6.2.keep hb65⟩
     rw[← hw5,← hgs]
     clear hw5 hgs
     have HST:=setCells_all (new:=(stC SS (.slice A2 SS.2.length c2)).toList) hBS (by rfl)
     have hS6:Blk (w5.setCells gS 0 (stC SS (.slice A2 SS.2.length c2)).toList) gl 327 (logC g9 h p.2)∧Blk (w5.setCells gS 0 (stC SS (.slice A2 SS.2.length c2)).toList) g8 324 #[.int .i64 0,.int .i64 h]:=⟨(HST.2.1.block _ hH5.1.lt (by have:=HRS.blk.lt;omega)).trans hH5.1,(HST.2.1.block _ hH5.2.lt (by have:=HB8.lt;omega)).trans hH5.2⟩
     refine kR 10 none (off:=0) (n:=3) (cs:=(stC SS (.slice A2 SS.2.length c2)).toList) (there_blk hBS (Nat.le_refl _)) rfl (stC_one3 _ _ _ _) hS6 (h:=?_)
     simp only[p1,p2,p3,p4,p5]
     refine kT 11 (some 10) (.nilIface) (h:=?_)
     simp only[p1,p2,p3,p4,p5]
     refine kE (h:=?_)
     go_wp2_with fail
     go_meet
     exact⟨gS,A2,c2,rfl,rfl,Lib.hid (HRS.cut hBS HST hoS hbS hgS hnS hokS)⟩
    ·simp only[p1,p2,p3,p4,p5]
     obtain⟨w4,hw4⟩:∃ w4,w4=wS.alloc (.cells stZ 392):=⟨_,rfl⟩
     obtain⟨gS,hgs⟩:∃ gS,gS=wS.heap.size:=⟨_,rfl⟩
     have hB4:Blk w4 gS 392 stZ:=by rw[hw4,hgs];exact Blk.new _ _ _
     have hb4:Below wS.heap.size wS w4:=by rw[hw4];exact bel1 _ _
     have hs4:w4.heap.size=wS.heap.size+1:=by rw[hw4];simp
     rw[← hw4,← hgs]
     clear hw4
     refine kF 5 (some 25) ((HCL.out w4 (HRS.dk.keep hb4)).mono ?_)
     rintro e w5 ⟨hb5,vE,rfl,ho5,hokS⟩
     obtain⟨A2,c2,rfl,_⟩:=Sn.own ho5
     refine⟨_,rfl,⟨(hH.1.keep hb4).keep hb5,(hH.2.keep hb4).keep hb5⟩,fun hH5=>?_⟩
     simp only[p1,p2,p3,p4,p5]
     have hBS:=hB4.keep hb5
     have hoS:=own_base (base':=wS.heap.size) ho5 (by omega)
     have hbS:Below wS.heap.size wS w5:=bstep hb4 hb5
     have hgS:wS.heap.size≤gS:=by omega
     have hnS:∀ b,(Value.slice A2 SS.2.length c2).ownBlock=some b→b≠gS:=fun b e=>by have:=(ho5.lt b e).1;omega
     refine kM 6 (some 19) (.tuple #[.agg (stC SS (.slice A2 SS.2.length c2)),.nilIface]) (h:=?_)
     simp only[p1,p2,p3,p4,p5]
     refine kT 7 (some 26) (.agg (stC SS (.slice A2 SS.2.length c2))) (h:=?_)
     simp only[p1,p2,p3,p4,p5]
     refine kT 8 (some 27) (.nilIface) (h:=?_)
     simp only[p1,p2,p3,p4,p5]
     have HST:=setCells_all (new:=(stC SS (.slice A2 SS.2.length c2)).toList) hBS (by rfl)
     have hS6:Blk (w5.setCells gS 0 (stC SS (.slice A2 SS.2.length c2)).toList) gl 327 (logC g9 h p.2)∧Blk (w5.setCells gS 0 (stC SS (.slice A2 SS.2.length c2)).toList) g8 324 #[.int .i64 0,.int .i64 h]:=⟨(HST.2.1.block _ hH5.1.lt (by have:=HRS.blk.lt;omega)).trans hH5.1,(HST.2.1.block _ hH5.2.lt (by have:=HB8.lt;omega)).trans hH5.2⟩
     refine kR 10 none (off:=0) (n:=3) (cs:=(stC SS (.slice A2 SS.2.length c2)).toList) (there_blk hBS (Nat.le_refl _)) rfl (stC_one3 _ _ _ _) hS6 (h:=?_)
     simp only[p1,p2,p3,p4,p5]
     refine kT 11 (some 10) (.nilIface) (h:=?_)
     simp only[p1,p2,p3,p4,p5]
     refine kE (h:=?_)
     go_wp2_with fail
     go_meet
     exact⟨gS,A2,c2,rfl,rfl,Lib.hid (HRS.cut hBS HST hoS hbS hgS hnS hokS)⟩
   case rest=>
   obtain⟨gS,A2,c2,rfl,rfl,HC⟩:=hcut
   obtain⟨w6,hw6⟩:∃ w6,w6=wc:=⟨_,rfl⟩
   rw[← hw6] at HC ⊢
   clear hw6
   have HBS:Hid (Blk w6 gS 392 (stC SS (.slice A2 SS.2.length c2))):=Lib.hid HC.st
   have HOE:=Lib.hid HC.own
   have HOK:=Lib.hid HC.ok
   have HR6:=Lib.hid HC.fr
   have hg6:gl<w6.heap.size:=HR6.blk.lt
   have e0:=HBS.cell 0
   have e1:=HBS.cell 1
   have e2:=HBS.cell 2
   have HB6:Hid (Blk w6 gl 327 (logC g9 h p.2)):=Lib.hid (by rw[← HG9.out];exact HR6.blk)
   have l7:w6.cell? ⟨gl,7,none⟩=some (.int .u32 p.2.gen):=(HB6.cell 7).trans rfl
   have l5:w6.cell? ⟨gl,5,none⟩=some (.int .i64 p.2.side):=(HB6.cell 5).trans rfl
   have l8:w6.cell? ⟨gl,8,none⟩=some (.int .i64 p.2.cnt):=(HB6.cell 8).trans rfl
   have f5:=HB6.frozen 5
   have f7:=HB6.frozen 7
   have f8:=HB6.frozen 8
   simp only[stC,List.getElem?_toArray,List.getElem?_cons_zero,List.getElem?_cons_succ] at e0 e1 e2
   have hnn:=eq_nilL
   have hSL:=HSS2.out
   clear HC
   cases hso:SS.1 with
   | none=>
    rw[hso] at e0 e1
    have HSO:=Lib.hid hso
    clear hso
    simp only[Option.isSome_none] at e0
    have HFN:=Lib.hid (HFX.trans (fNext_none (k:=0) HSO.out))
    go_wp2_with fail
    go_quiet (fail)
    go_wp2_with fail
    refine⟨⟨1,by omega,rfl,by rw[HFN.out,HFI.out],?_⟩,by simp[intOf]⟩
    rw[HFN.out]
    exact Lib.hid (HR6.keep (bdrewN (Below.refl _ _) nq))
   | some gN=>
    rw[hso] at e0 e1
    have HSO:Hid (SS.1=some gN):=Lib.hid hso
    clear hso
    simp only[Option.isSome_some,Option.getD_some] at e0 e1
    have HFN:=Lib.hid (HFX.trans (fNext_new (k:=0) HSO.out (.inl HF.out)))
    go_wp2_with fail
    go_quiet (fail)
    go_wp2_with fail
    refine⟨⟨1,by omega,rfl,by rw[HFN.out];rfl,?_⟩,by simp[intOf]⟩
    rw[HFN.out]
    have hb67:Below w6.heap.size w6 (w6.drewN nq):=bdrewN (Below.refl _ _) nq
    exact Lib.hid (HR6.put hb67 SS.2 _ HAP.out hgl (own_below HOE.out hb67) HOK.out (fun j hj=>by rw[Below.heap_setCell _ ⟨gl,8,none⟩ _ j hj,Below.heap_setCell _ ⟨gl,7,none⟩ _ j hj,Below.heap_setCell _ ⟨gl,5,none⟩ _ j hj]) (by have:=logset (HR6.blk.keep hb67) 0 gN SS.2.length;exact this) (by simp) ⟨rfl,rfl,rfl⟩)
  ·obtain⟨p,hp⟩:∃ p,p=fAt d h L 1:=⟨_,rfl⟩
   obtain⟨SS,hSS⟩:∃ SS,SS=slotS d h h:=⟨_,rfl⟩
   have HSS2:Hid (SS.2.length≤h):=Lib.hid (by rw[hSS];exact HSL.out _)
   have HFX:Hid (fAt d h L 2=fNext 1 SS p):=Lib.hid (by rw[hSS,hp];exact HFA.out 1)
   have HCL:=Lib.hid (fun W hkW=>HSC.out W h hkW (by omega))
   rw[← hSS] at HCL
   rw[← hp] at HR ⊢
   clear hSS hp
   cases hp1:p.1 with
   | none=>
    have HF:Hid (p.1=none):=Lib.hid hp1
    have HFI:Hid (p.1.isSome=false):=Lib.hid (by rw[HF.out];rfl)
    clear hp1
    simp only[Option.isSome_none]
    have hix:∀ w,(Instr.index 325 (.agg #[.int .i64 0,.int .i64 h,.int .i64 h,.int .i64 h]) (.int .i64 1)).run Tryz.prog w = .ok (.agg #[.int .i64 h,.int .i64 h]) w:=fun w=>by kernel_rfl
    go_upto_region 6 with fail
    obtain⟨w2,hw2⟩:∃ w2,w2=wr.alloc (.cells #[.int .i64 h,.int .i64 h] 324):=⟨_,rfl⟩
    have hB2:Blk w2 wr.heap.size 324 #[.int .i64 h,.int .i64 h]:=by rw[hw2];exact Blk.new _ _ _
    have hb2:Below wr.heap.size wr w2:=by rw[hw2];exact bel1 _ _
    rw[← hw2]
    clear hw2
    obtain⟨g8,hg8⟩:∃ g8,g8=wr.heap.size:=⟨_,rfl⟩
    rw[← hg8] at hB2 ⊢
    have HB82:Hid (Blk w2 g8 324 #[.int .i64 h,.int .i64 h]):=Lib.hid hB2
    have HR2:=Lib.hid (HR.keep hb2)
    clear hB2 hb2 hg8
    go_cut [9,10] from 19 to 27 (fun x y wx=>∃ gS A2 c2,x = .pointer (some ⟨gS,0,none⟩)∧y = .nilIface∧Hid (FX w wx m d gl h p u6 SS gS (.slice A2 SS.2.length c2)))
    case first=>
     obtain⟨wS,hwS⟩:∃ wS,wS=w2.drew:=⟨_,rfl⟩
     have HRS:=Lib.hid (HR2.keep (Below.refl _ _).drew)
     rw[← hwS] at HRS
     have HB1:Hid (Blk wS gl 327 (logC g9 h p.2)):=Lib.hid (by rw[← HG9.out];exact HRS.blk)
     have HB8:Hid (Blk wS g8 324 #[.int .i64 h,.int .i64 h]):=Lib.hid (by rw[hwS];exact HB82.keep (Below.refl _ _).drew)
     refine kZ (n:=12) (fun W=>Blk W gl 327 (logC g9 h p.2)∧Blk W g8 324 #[.int .i64 h,.int .i64 h]) (by rw[← hwS];exact⟨HB1.out,HB8.out⟩) (h:=fun hH=>?_)
     rw[← hwS] at hH ⊢
     clear hwS
     refine kM 0 (some 20) (.pointer (some ⟨gl,0,none⟩)) (h:=?_)
     simp only[p1,p2,p3,p4,p5]
     refine kT 1 (some 21) (.pointer (some ⟨gl,0,none⟩)) (h:=?_)
     simp only[p1,p2,p3,p4,p5]
     refine kT 2 (some 22) (.pointer (some ⟨gl,0,none⟩)) (h:=?_)
     simp only[p1,p2,p3,p4,p5]
     refine kC 3 (some 23) (v:=.pointer (some ⟨g9,0,none⟩)) (fun _ hX=>(hX.1.cell 0).trans rfl) (h:=?_)
     simp only[p1,p2,p3,p4,p5]
     refine kL 4 (some 24) (cs:=[.int .i64 h,.int .i64 h]) (fun _ hX=>hX.2.range) (rfl) (h:=?_)
     simp only[p1,p2,p3,p4,p5]
     refine kCA 5 9 (some 25) (some 9) (zs:=stZ) zeroS ((HCL.out wS HRS.dk).mono ?_) ⟨hH.1.alloc _,hH.2.alloc _⟩ ?_
     ·rintro e w6 ⟨hb6,vE,rfl,ho6,hokS⟩
      obtain⟨A2,c2,rfl,_⟩:=Sn.own ho6
      refine⟨_,rfl,⟨hH.1.keep hb6,hH.2.keep hb6⟩,fun hH6=>?_⟩
      simp only[p1,p2,p3,p4,p5]
      refine kM 6 (some 19) (.tuple #[.agg (stC SS (.slice A2 SS.2.length c2)),.nilIface]) (h:=?_)
      simp only[p1,p2,p3,p4,p5]
      refine kT 7 (some 26) (.agg (stC SS (.slice A2 SS.2.length c2))) (h:=?_)
      simp only[p1,p2,p3,p4,p5]
      refine kT 8 (some 27) (.nilIface) (h:=?_)
      simp only[p1,p2,p3,p4,p5]
      refine kA 9 (some 9) (zs:=stZ) zeroS ⟨hH6.1.alloc _,hH6.2.alloc _⟩ (h:=?_)
      simp only[p1,p2,p3,p4,p5]
      obtain⟨w5,hw5⟩:∃ w5,w5=w6.alloc (.cells stZ 392):=⟨_,rfl⟩
      obtain⟨gS,hgs⟩:∃ gS,gS=w6.heap.size:=⟨_,rfl⟩
      have hBS:Blk w5 gS 392 stZ:=by rw[hw5,hgs];exact Blk.new _ _ _
      have hb65:Below w6.heap.size w6 w5:=by rw[hw5];exact bel1 _ _
      have hoS:=own_below ho6 hb65
      have hbS:Below wS.heap.size wS w5:=bstep hb6 hb65
      have hgS:wS.heap.size≤gS:=by rw[hgs];exact hb6.size
      have hnS:∀ b,(Value.slice A2 SS.2.length c2).ownBlock=some b→b≠gS:=fun b e=>by have:=(ho6.lt b e).2;omega
      have hH5:Blk w5 gl 327 (logC g9 h p.2)∧Blk w5 g8 324 #[.int .i64 h,.int .i64 h]:=⟨hH6.1.keep hb65,hH6.2.keep hb65⟩
      rw[← hw5,← hgs]
      clear hw5 hgs
      have HST:=setCells_all (new:=(stC SS (.slice A2 SS.2.length c2)).toList) hBS (by rfl)
      have hS6:Blk (w5.setCells gS 0 (stC SS (.slice A2 SS.2.length c2)).toList) gl 327 (logC g9 h p.2)∧Blk (w5.setCells gS 0 (stC SS (.slice A2 SS.2.length c2)).toList) g8 324 #[.int .i64 h,.int .i64 h]:=⟨(HST.2.1.block _ hH5.1.lt (by have:=HRS.blk.lt;omega)).trans hH5.1,(HST.2.1.block _ hH5.2.lt (by have:=HB8.lt;omega)).trans hH5.2⟩
      refine kR 10 none (off:=0) (n:=3) (cs:=(stC SS (.slice A2 SS.2.length c2)).toList) (there_blk hBS (Nat.le_refl _)) rfl (stC_one3 _ _ _ _) hS6 (h:=?_)
      simp only[p1,p2,p3,p4,p5]
      refine kT 11 (some 10) (.nilIface) (h:=?_)
      simp only[p1,p2,p3,p4,p5]
      refine kE (h:=?_)
      go_wp2_with fail
      go_meet
      exact⟨gS,A2,c2,rfl,rfl,Lib.hid (HRS.cut hBS HST hoS hbS hgS hnS hokS)⟩
     ·simp only[p1,p2,p3,p4,p5]
      obtain⟨w4,hw4⟩:∃ w4,w4=wS.alloc (.cells stZ 392):=⟨_,rfl⟩
      obtain⟨gS,hgs⟩:∃ gS,gS=wS.heap.size:=⟨_,rfl⟩
      have hB4:Blk w4 gS 392 stZ:=by rw[hw4,hgs];exact Blk.new _ _ _
      have hb4:Below wS.heap.size wS w4:=by rw[hw4];exact bel1 _ _
      have hs4:w4.heap.size=wS.heap.size+1:=by rw[hw4];simp
      rw[← hw4,← hgs]
      clear hw4
      refine kF 5 (some 25) ((HCL.out w4 (HRS.dk.keep hb4)).mono ?_)
      rintro e w5 ⟨hb5,vE,rfl,ho5,hokS⟩
      obtain⟨A2,c2,rfl,_⟩:=Sn.own ho5
      refine⟨_,rfl,⟨(hH.1.keep hb4).keep hb5,(hH.2.keep hb4).keep hb5⟩,fun hH5=>?_⟩
      simp only[p1,p2,p3,p4,p5]
      have hBS:=hB4.keep hb5
      have hoS:=own_base (base':=wS.heap.size) ho5 (by omega)
      have hbS:Below wS.heap.size wS w5:=bstep hb4 hb5
      have hgS:wS.heap.size≤gS:=by omega
      have hnS:∀ b,(Value.slice A2 SS.2.length c2).ownBlock=some b→b≠gS:=fun b e=>by have:=(ho5.lt b e).1;omega
      refine kM 6 (some 19) (.tuple #[.agg (stC SS (.slice A2 SS.2.length c2)),.nilIface]) (h:=?_)
      simp only[p1,p2,p3,p4,p5]
      refine kT 7 (some 26) (.agg (stC SS (.slice A2 SS.2.length c2))) (h:=?_)
      simp only[p1,p2,p3,p4,p5]
      refine kT 8 (some 27) (.nilIface) (h:=?_)
      simp only[p1,p2,p3,p4,p5]
      have HST:=setCells_all (new:=(stC SS (.slice A2 SS.2.length c2)).toList) hBS (by rfl)
      have hS6:Blk (w5.setCells gS 0 (stC SS (.slice A2 SS.2.length c2)).toList) gl 327 (logC g9 h p.2)∧Blk (w5.setCells gS 0 (stC SS (.slice A2 SS.2.length c2)).toList) g8 324 #[.int .i64 h,.int .i64 h]:=⟨(HST.2.1.block _ hH5.1.lt (by have:=HRS.blk.lt;omega)).trans hH5.1,(HST.2.1.block _ hH5.2.lt (by have:=HB8.lt;omega)).trans hH5.2⟩
      refine kR 10 none (off:=0) (n:=3) (cs:=(stC SS (.slice A2 SS.2.length c2)).toList) (there_blk hBS (Nat.le_refl _)) rfl (stC_one3 _ _ _ _) hS6 (h:=?_)
      simp only[p1,p2,p3,p4,p5]
      refine kT 11 (some 10) (.nilIface) (h:=?_)
      simp only[p1,p2,p3,p4,p5]
      refine kE (h:=?_)
      go_wp2_with fail
      go_meet
      exact⟨gS,A2,c2,rfl,rfl,Lib.hid (HRS.cut hBS HST hoS hbS hgS hnS hokS)⟩
    case rest=>
    obtain⟨gS,A2,c2,rfl,rfl,HC⟩:=hcut
    obtain⟨w6,hw6⟩:∃ w6,w6=wc:=⟨_,rfl⟩
    rw[← hw6] at HC ⊢
    clear hw6
    have HBS:Hid (Blk w6 gS 392 (stC SS (.slice A2 SS.2.length c2))):=Lib.hid HC.st
    have HOE:=Lib.hid HC.own
    have HOK:=Lib.hid HC.ok
    have HR6:=Lib.hid HC.fr
    have hg6:gl<w6.heap.size:=HR6.blk.lt
    have e0:=HBS.cell 0
    have e1:=HBS.cell 1
    have e2:=HBS.cell 2
    have HB6:Hid (Blk w6 gl 327 (logC g9 h p.2)):=Lib.hid (by rw[← HG9.out];exact HR6.blk)
    have l7:w6.cell? ⟨gl,7,none⟩=some (.int .u32 p.2.gen):=(HB6.cell 7).trans rfl
    have l5:w6.cell? ⟨gl,5,none⟩=some (.int .i64 p.2.side):=(HB6.cell 5).trans rfl
    have l8:w6.cell? ⟨gl,8,none⟩=some (.int .i64 p.2.cnt):=(HB6.cell 8).trans rfl
    have f5:=HB6.frozen 5
    have f7:=HB6.frozen 7
    have f8:=HB6.frozen 8
    simp only[stC,List.getElem?_toArray,List.getElem?_cons_zero,List.getElem?_cons_succ] at e0 e1 e2
    have hnn:=eq_nilL
    have hSL:=HSS2.out
    clear HC
    cases hso:SS.1 with
    | none=>
     rw[hso] at e0 e1
     have HSO:=Lib.hid hso
     clear hso
     simp only[Option.isSome_none] at e0
     have HFN:=Lib.hid (HFX.trans (fNext_none (k:=1) HSO.out))
     go_wp2_with fail
     go_quiet (fail)
     go_wp2_with fail
     refine⟨⟨2,by omega,rfl,by rw[HFN.out,HFI.out],?_⟩,by simp[intOf]⟩
     rw[HFN.out]
     exact Lib.hid (HR6.keep (bdrewN (Below.refl _ _) nq))
    | some gN=>
     rw[hso] at e0 e1
     have HSO:Hid (SS.1=some gN):=Lib.hid hso
     clear hso
     simp only[Option.isSome_some,Option.getD_some] at e0 e1
     have HFN:=Lib.hid (HFX.trans (fNext_new (k:=1) HSO.out (.inl HF.out)))
     go_wp2_with fail
     go_quiet (fail)
     go_wp2_with fail
     refine⟨⟨2,by omega,rfl,by rw[HFN.out];rfl,?_⟩,by simp[intOf]⟩
     rw[HFN.out]
     have hb67:Below w6.heap.size w6 (w6.drewN nq):=bdrewN (Below.refl _ _) nq
     exact Lib.hid (HR6.put hb67 SS.2 _ HAP.out hgl (own_below HOE.out hb67) HOK.out (fun j hj=>by rw[Below.heap_setCell _ ⟨gl,8,none⟩ _ j hj,Below.heap_setCell _ ⟨gl,7,none⟩ _ j hj,Below.heap_setCell _ ⟨gl,5,none⟩ _ j hj]) (by have:=logset (HR6.blk.keep hb67) 1 gN SS.2.length;exact this) (by simp) ⟨rfl,rfl,rfl⟩)
   | some es=>
    have HF:Hid (p.1=some es):=Lib.hid hp1
    have HFI:Hid (p.1.isSome=true):=Lib.hid (by rw[HF.out];rfl)
    clear hp1
    simp only[Option.isSome_some]
    have hix:∀ w,(Instr.index 325 (.agg #[.int .i64 0,.int .i64 h,.int .i64 h,.int .i64 h]) (.int .i64 1)).run Tryz.prog w = .ok (.agg #[.int .i64 h,.int .i64 h]) w:=fun w=>by kernel_rfl
    go_upto_region 6 with fail
    obtain⟨w2,hw2⟩:∃ w2,w2=wr.alloc (.cells #[.int .i64 h,.int .i64 h] 324):=⟨_,rfl⟩
    have hB2:Blk w2 wr.heap.size 324 #[.int .i64 h,.int .i64 h]:=by rw[hw2];exact Blk.new _ _ _
    have hb2:Below wr.heap.size wr w2:=by rw[hw2];exact bel1 _ _
    rw[← hw2]
    clear hw2
    obtain⟨g8,hg8⟩:∃ g8,g8=wr.heap.size:=⟨_,rfl⟩
    rw[← hg8] at hB2 ⊢
    have HB82:Hid (Blk w2 g8 324 #[.int .i64 h,.int .i64 h]):=Lib.hid hB2
    have HR2:=Lib.hid (HR.keep hb2)
    clear hB2 hb2 hg8
    go_cut [9,10] from 19 to 27 (fun x y wx=>∃ gS A2 c2,x = .pointer (some ⟨gS,0,none⟩)∧y = .nilIface∧Hid (FX w wx m d gl h p u6 SS gS (.slice A2 SS.2.length c2)))
    case first=>
     obtain⟨wS,hwS⟩:∃ wS,wS=w2.drew:=⟨_,rfl⟩
     have HRS:=Lib.hid (HR2.keep (Below.refl _ _).drew)
     rw[← hwS] at HRS
     have HB1:Hid (Blk wS gl 327 (logC g9 h p.2)):=Lib.hid (by rw[← HG9.out];exact HRS.blk)
     have HB8:Hid (Blk wS g8 324 #[.int .i64 h,.int .i64 h]):=Lib.hid (by rw[hwS];exact HB82.keep (Below.refl _ _).drew)
     refine kZ (n:=12) (fun W=>Blk W gl 327 (logC g9 h p.2)∧Blk W g8 324 #[.int .i64 h,.int .i64 h]) (by rw[← hwS];exact⟨HB1.out,HB8.out⟩) (h:=fun hH=>?_)
     rw[← hwS] at hH ⊢
     clear hwS
     refine kM 0 (some 20) (.pointer (some ⟨gl,0,none⟩)) (h:=?_)
     simp only[p1,p2,p3,p4,p5]
     refine kT 1 (some 21) (.pointer (some ⟨gl,0,none⟩)) (h:=?_)
     simp only[p1,p2,p3,p4,p5]
     refine kT 2 (some 22) (.pointer (some ⟨gl,0,none⟩)) (h:=?_)
     simp only[p1,p2,p3,p4,p5]
     refine kC 3 (some 23) (v:=.pointer (some ⟨g9,0,none⟩)) (fun _ hX=>(hX.1.cell 0).trans rfl) (h:=?_)
     simp only[p1,p2,p3,p4,p5]
     refine kL 4 (some 24) (cs:=[.int .i64 h,.int .i64 h]) (fun _ hX=>hX.2.range) (rfl) (h:=?_)
     simp only[p1,p2,p3,p4,p5]
     refine kCA 5 9 (some 25) (some 9) (zs:=stZ) zeroS ((HCL.out wS HRS.dk).mono ?_) ⟨hH.1.alloc _,hH.2.alloc _⟩ ?_
     ·rintro e w6 ⟨hb6,vE,rfl,ho6,hokS⟩
      obtain⟨A2,c2,rfl,_⟩:=Sn.own ho6
      refine⟨_,rfl,⟨hH.1.keep hb6,hH.2.keep hb6⟩,fun hH6=>?_⟩
      simp only[p1,p2,p3,p4,p5]
      refine kM 6 (some 19) (.tuple #[.agg (stC SS (.slice A2 SS.2.length c2)),.nilIface]) (h:=?_)
      simp only[p1,p2,p3,p4,p5]
      refine kT 7 (some 26) (.agg (stC SS (.slice A2 SS.2.length c2))) (h:=?_)
      simp only[p1,p2,p3,p4,p5]
      refine kT 8 (some 27) (.nilIface) (h:=?_)
      simp only[p1,p2,p3,p4,p5]
      refine kA 9 (some 9) (zs:=stZ) zeroS ⟨hH6.1.alloc _,hH6.2.alloc _⟩ (h:=?_)
      simp only[p1,p2,p3,p4,p5]
      obtain⟨w5,hw5⟩:∃ w5,w5=w6.alloc (.cells stZ 392):=⟨_,rfl⟩
      obtain⟨gS,hgs⟩:∃ gS,gS=w6.heap.size:=⟨_,rfl⟩
      have hBS:Blk w5 gS 392 stZ:=by rw[hw5,hgs];exact Blk.new _ _ _
      have hb65:Below w6.heap.size w6 w5:=by rw[hw5];exact bel1 _ _
      have hoS:=own_below ho6 hb65
      have hbS:Below wS.heap.size wS w5:=bstep hb6 hb65
      have hgS:wS.heap.size≤gS:=by rw[hgs];exact hb6.size
      have hnS:∀ b,(Value.slice A2 SS.2.length c2).ownBlock=some b→b≠gS:=fun b e=>by have:=(ho6.lt b e).2;omega
      have hH5:Blk w5 gl 327 (logC g9 h p.2)∧Blk w5 g8 324 #[.int .i64 h,.int .i64 h]:=⟨hH6.1.keep hb65,hH6.2.keep hb65⟩
      rw[← hw5,← hgs]
      clear hw5 hgs
      have HST:=setCells_all (new:=(stC SS (.slice A2 SS.2.length c2)).toList) hBS (by rfl)
      have hS6:Blk (w5.setCells gS 0 (stC SS (.slice A2 SS.2.length c2)).toList) gl 327 (logC g9 h p.2)∧Blk (w5.setCells gS 0 (stC SS (.slice A2 SS.2.length c2)).toList) g8 324 #[.int .i64 h,.int .i64 h]:=⟨(HST.2.1.block _ hH5.1.lt (by have:=HRS.blk.lt;omega)).trans hH5.1,(HST.2.1.block _ hH5.2.lt (by have:=HB8.lt;omega)).trans hH5.2⟩
      refine kR 10 none (off:=0) (n:=3) (cs:=(stC SS (.slice A2 SS.2.length c2)).toList) (there_blk hBS (Nat.le_refl _)) rfl (stC_one3 _ _ _ _) hS6 (h:=?_)
      simp only[p1,p2,p3,p4,p5]
      refine kT 11 (some 10) (.nilIface) (h:=?_)
      simp only[p1,p2,p3,p4,p5]
      refine kE (h:=?_)
      go_wp2_with fail
      go_meet
      exact⟨gS,A2,c2,rfl,rfl,Lib.hid (HRS.cut hBS HST hoS hbS hgS hnS hokS)⟩
     ·simp only[p1,p2,p3,p4,p5]
      obtain⟨w4,hw4⟩:∃ w4,w4=wS.alloc (.cells stZ 392):=⟨_,rfl⟩
      obtain⟨gS,hgs⟩:∃ gS,gS=wS.heap.size:=⟨_,rfl⟩
      have hB4:Blk w4 gS 392 stZ:=by rw[hw4,hgs];exact Blk.new _ _ _
      have hb4:Below wS.heap.size wS w4:=by rw[hw4];exact bel1 _ _
      have hs4:w4.heap.size=wS.heap.size+1:=by rw[hw4];simp
      rw[← hw4,← hgs]
      clear hw4
      refine kF 5 (some 25) ((HCL.out w4 (HRS.dk.keep hb4)).mono ?_)
      rintro e w5 ⟨hb5,vE,rfl,ho5,hokS⟩
      obtain⟨A2,c2,rfl,_⟩:=Sn.own ho5
      refine⟨_,rfl,⟨(hH.1.keep hb4).keep hb5,(hH.2.keep hb4).keep hb5⟩,fun hH5=>?_⟩
      simp only[p1,p2,p3,p4,p5]
      have hBS:=hB4.keep hb5
      have hoS:=own_base (base':=wS.heap.size) ho5 (by omega)
      have hbS:Below wS.heap.size wS w5:=bstep hb4 hb5
      have hgS:wS.heap.size≤gS:=by omega
      have hnS:∀ b,(Value.slice A2 SS.2.length c2).ownBlock=some b→b≠gS:=fun b e=>by have:=(ho5.lt b e).1;omega
      refine kM 6 (some 19) (.tuple #[.agg (stC SS (.slice A2 SS.2.length c2)),.nilIface]) (h:=?_)
      simp only[p1,p2,p3,p4,p5]
      refine kT 7 (some 26) (.agg (stC SS (.slice A2 SS.2.length c2))) (h:=?_)
      simp only[p1,p2,p3,p4,p5]
      refine kT 8 (some 27) (.nilIface) (h:=?_)
      simp only[p1,p2,p3,p4,p5]
      have HST:=setCells_all (new:=(stC SS (.slice A2 SS.2.length c2)).toList) hBS (by rfl)
      have hS6:Blk (w5.setCells gS 0 (stC SS (.slice A2 SS.2.length c2)).toList) gl 327 (logC g9 h p.2)∧Blk (w5.setCells gS 0 (stC SS (.slice A2 SS.2.length c2)).toList) g8 324 #[.int .i64 h,.int .i64 h]:=⟨(HST.2.1.block _ hH5.1.lt (by have:=HRS.blk.lt;omega)).trans hH5.1,(HST.2.1.block _ hH5.2.lt (by have:=HB8.lt;omega)).trans hH5.2⟩
      refine kR 10 none (off:=0) (n:=3) (cs:=(stC SS (.slice A2 SS.2.length c2)).toList) (there_blk hBS (Nat.le_refl _)) rfl (stC_one3 _ _ _ _) hS6 (h:=?_)
      simp only[p1,p2,p3,p4,p5]
      refine kT 11 (some 10) (.nilIface) (h:=?_)
      simp only[p1,p2,p3,p4,p5]
      refine kE (h:=?_)
      go_wp2_with fail
      go_meet
      exact⟨gS,A2,c2,rfl,rfl,Lib.hid (HRS.cut hBS HST hoS hbS hgS hnS hokS)⟩
    case rest=>
    obtain⟨gS,A2,c2,rfl,rfl,HC⟩:=hcut
    obtain⟨w6,hw6⟩:∃ w6,w6=wc:=⟨_,rfl⟩
    rw[← hw6] at HC ⊢
    clear hw6
    have HBS:Hid (Blk w6 gS 392 (stC SS (.slice A2 SS.2.length c2))):=Lib.hid HC.st
    have HOE:=Lib.hid HC.own
    have HOK:=Lib.hid HC.ok
    have HR6:=Lib.hid HC.fr
    have hg6:gl<w6.heap.size:=HR6.blk.lt
    have e0:=HBS.cell 0
    have e1:=HBS.cell 1
    have e2:=HBS.cell 2
    have HB6:Hid (Blk w6 gl 327 (logC g9 h p.2)):=Lib.hid (by rw[← HG9.out];exact HR6.blk)
    have l7:w6.cell? ⟨gl,7,none⟩=some (.int .u32 p.2.gen):=(HB6.cell 7).trans rfl
    have l5:w6.cell? ⟨gl,5,none⟩=some (.int .i64 p.2.side):=(HB6.cell 5).trans rfl
    have l8:w6.cell? ⟨gl,8,none⟩=some (.int .i64 p.2.cnt):=(HB6.cell 8).trans rfl
    have f5:=HB6.frozen 5
    have f7:=HB6.frozen 7
    have f8:=HB6.frozen 8
    simp only[stC,List.getElem?_toArray,List.getElem?_cons_zero,List.getElem?_cons_succ] at e0 e1 e2
    have hnn:=eq_nilL
    have hSL:=HSS2.out
    clear HC
    cases hso:SS.1 with
    | none=>
     rw[hso] at e0 e1
     have HSO:=Lib.hid hso
     clear hso
     simp only[Option.isSome_none] at e0
     have HFN:=Lib.hid (HFX.trans (fNext_none (k:=1) HSO.out))
     go_wp2_with fail
     go_quiet (fail)
     go_wp2_with fail
     refine⟨⟨2,by omega,rfl,by rw[HFN.out,HFI.out],?_⟩,by simp[intOf]⟩
     rw[HFN.out]
     exact Lib.hid (HR6.keep (bdrewN (Below.refl _ _) nq))
    | some gN=>
     rw[hso] at e0 e1
     have HSO:Hid (SS.1=some gN):=Lib.hid hso
     clear hso
     simp only[Option.isSome_some,Option.getD_some] at e0 e1
     rcases Nat.lt_or_ge p.2.gen gN with hgt|hle
     ·have hgi:(p.2.gen:Int)<gN:=by omega
      have HFN:=Lib.hid (HFX.trans (fNext_new (k:=1) HSO.out (.inr hgt)))
      go_wp2_with fail
      go_quiet (fail)
      go_wp2_with fail
      refine⟨⟨2,by omega,rfl,by rw[HFN.out];rfl,?_⟩,by simp[intOf]⟩
      rw[HFN.out]
      have hb67:Below w6.heap.size w6 (w6.drewN nq):=bdrewN (Below.refl _ _) nq
      exact Lib.hid (HR6.put hb67 SS.2 _ HAP.out hgl (own_below HOE.out hb67) HOK.out (fun j hj=>by rw[Below.heap_setCell _ ⟨gl,8,none⟩ _ j hj,Below.heap_setCell _ ⟨gl,7,none⟩ _ j hj,Below.heap_setCell _ ⟨gl,5,none⟩ _ j hj]) (by have:=logset (HR6.blk.keep hb67) 1 gN SS.2.length;exact this) (by simp) ⟨rfl,rfl,rfl⟩)
     ·have hgi:(gN:Int)≤p.2.gen:=by omega
      have HFN:=Lib.hid (HFX.trans (fNext_old (k:=1) HSO.out HF.out hle))
      go_wp2_with fail
      go_quiet (fail)
      go_wp2_with fail
      refine⟨⟨2,by omega,rfl,by rw[HFN.out,HFI.out],?_⟩,by simp[intOf]⟩
      rw[HFN.out]
      exact Lib.hid (HR6.keep (bdrewN (Below.refl _ _) nq))
  ·go_wp2_with fail
   refine bodyPost_ret (results_tmp3 rfl _ _ _) rfl ?_
   exact⟨_,rfl,HR.out⟩
end
end Go.Proofs.YtiaigidbcljblaaGreatDoor
