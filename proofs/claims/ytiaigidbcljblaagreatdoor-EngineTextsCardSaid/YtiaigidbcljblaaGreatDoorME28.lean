import Derived.Test.YtiaigidbcljblaaGreatDoorME27
import Derived.Test.YtiaigidbcljblaaGreatDoorME26
import Derived.Test.YtiaigidbcljblaaGreatDoorME25
import Derived.OwnWalk
import Derived.Laws.BitsAllLaws
import Derived.Test.YtiaigidbcljblaaGreatDoorME2
import Derived.Deep.Cut
import Derived.Deep.CutBlock
set_option linter.unusedSimpArgs false
set_option maxRecDepth 100000
set_option maxHeartbeats 40000000
namespace Go.Proofs.YtiaigidbcljblaaGreatDoor
section
open Go.RowKit
def ML(w:World):Prop:=∃ m:Int,w.cell? ⟨2,0,none⟩=some (.int .i64 m)
theorem ML.below{w w':World}(h:ML w)(hb:Below w.heap.size w w'):ML w':=by
 obtain⟨m,hm⟩:=h
 exact⟨m,Below.cell' hb hm⟩
theorem occ_at(s:Bs)(c:UInt8)(j:Nat):Lib.occAt s [c] j=(s[j]? == some c):=by
 unfold Lib.occAt
 rw[← List.head?_drop]
 cases s.drop j with
 | nil=>rfl
 | cons x t=>
  show(c == x && true)=(some x == some c)
  rw[Bool.and_true,Bool.eq_iff_iff,beq_iff_eq,beq_iff_eq]
  exact⟨fun e=>by rw[e],fun e=>(Option.some.inj e).symm⟩
theorem cut_word(c:UInt8)(s:Bs)(h:c ∉ s):Lib.cut s [c]=(s,[],false):=by
 have hi:Lib.index s [c] = -1:=Lib.index_none fun j _=>by
  rw[occ_at,beq_eq_false_iff_ne]
  intro e
  exact h (List.mem_of_getElem? e)
 unfold Lib.cut
 rw[hi]
 rfl
theorem cut_app(c:UInt8)(w r:Bs)(h:c ∉ w):Lib.cut (w++c :: r) [c]=(w,r,true):=by
 have hi:Lib.index (w++c :: r) [c]=(w.length:Nat):=Lib.index_first (by simp) (by rw[occ_at];simp) fun j hj=>by
  rw[occ_at,beq_eq_false_iff_ne,List.getElem?_append_left hj]
  intro e
  exact h (List.mem_of_getElem? e)
 unfold Lib.cut
 rw[hi,if_pos (by omega)]
 simp
theorem first_occ(c:UInt8):∀ s:Bs,c∈s→∃ w r,s=w++c :: r∧c ∉ w
 | [],h=>by cases h
 | x :: s,h=>by
  by_cases hx:x=c
  ·exact⟨[],s,by rw[hx];rfl,by simp⟩
  ·have hm:c∈s:=by simpa [Ne.symm hx] using h
   obtain⟨w,r,h1,h2⟩:=first_occ c s hm
   exact⟨x :: w,r,by rw[h1];rfl,by simp[Ne.symm hx,h2]⟩
theorem cut_ways(c:UInt8)(s:Bs):(c ∉ s∧split c s=[s]∧Lib.cut s [c]=(s,[],false))∨∃ w r,s=w++c :: r∧split c s=w :: split c r∧Lib.cut s [c]=(w,r,true):=by
 by_cases h:c∈s
 ·obtain⟨w,r,rfl,hw⟩:=first_occ c s h
  exact .inr ⟨w,r,rfl,split_app c w r hw,cut_app c w r hw⟩
 ·exact .inl ⟨h,split_word c s h,cut_word c s h⟩
theorem cut_call(c:UInt8)(s:Bs)(w:World)(hw:ML w)(hs:s.length≤100000000):
  Calls Tryz.prog 93 #[.string (SBy s),.string (SBy [c])] w fun e w'=>e = .returned (.tuple #[.string (SBy (Lib.cut s [c]).1),.string (SBy (Lib.cut s [c]).2.1),.bool (Lib.cut s [c]).2.2])∧∃ n,w'=w.drewN n:=by
 obtain⟨m,hm⟩:=hw
 have:=Tryz.strings_Cut (SBy s) (SBy [c]) m w (by rw[SB_size];omega) hm
 rw[SB_list,SB_list] at this
 exact this
def kmap(j:Nat):Bs→Option Value:=fun w=>if kindOf w≠0∧kindOf w≤j then some (.int .i64 (kindOf w)) else none
theorem kindOf_range(w:Bs):0≤kindOf w∧kindOf w≤6:=by
 unfold kindOf
 repeat (split;· omega)
 omega
theorem kmap_succ(j:Nat)(hj:j<6):sput (kmap j) (wordL ((j:Int)+1)) (.int .i64 ((j:Int)+1))=kmap (j+1):=by
 funext x
 unfold sput kmap
 have hk:kindOf (wordL ((j:Int)+1))=(j:Int)+1:=kindOf_word (by omega)
 by_cases hx:x=wordL ((j:Int)+1)
 ·rw[if_pos hx,hx,hk,if_pos (by omega)]
 ·rw[if_neg hx]
  by_cases h0:kindOf x=0
  ·rw[if_neg (by omega),if_neg (by omega)]
  ·have hne:kindOf x≠(j:Int)+1:=fun e=>hx (by rw[← e,word_kindOf h0])
   by_cases h1:kindOf x≤j
   ·rw[if_pos ⟨h0,h1⟩,if_pos ⟨h0,by omega⟩]
   ·rw[if_neg (fun h=>h1 h.2),if_neg (by omega)]
theorem mturned{B:Nat}{w w1 w2:World}{b:Nat}(h:Below B w w1)(ht:w1.mapTurned w2 b)(hb:B≤b)(hs:B≤w1.heap.size):Below B w w2:=
 h.grown ht.grown hs (fun k hk=>by injection hk with hk;omega)
theorem kinds_any(w:World):
  Calls Tryz.prog 61 #[] w fun e w'=>∃ b,e = .returned (.map (some b))∧SM w' b 6 (kmap 6)∧Below w.heap.size w w':=by
 go_enter Tryz.func61,Tryz.ntmps61
 have hmm:=@run_makeMap Tryz.prog
 go_wp2_with fail
 clear hmm
 go_loopw [2] (fun i wr=>∃ k:Nat,k≤6∧i = .int .i64 ((k:Int)+1)∧Hid (SM wr w.heap.size k (kmap k))∧Hid (Below w.heap.size w wr)) (fun i _=>7-(intOf i).toNat)
 case atStart=>exact⟨0,by omega,rfl,Lib.hid ((SM.made w).congr fun x _=>by unfold kmap;rw[if_neg];have:=kindOf_range x;omega),Lib.hid (bel1S _ _)⟩
 case round=>
  obtain⟨k,hk,rfl,HM,HB⟩:=hrel
  have hszr:=HB.size
  rcases Nat.lt_or_ge k 6 with hlt|hge
  ·have t1:decide ((k:Int)+1≤6)=true:=by simp;omega
   have HS:=Lib.hid (kmap_succ k hlt)
   have hwl:SOk (wordL ((k:Int)+1)):=by
    unfold SOk wordL maxLen
    repeat (split;· simp)
    simp
   have HW:=Lib.hid hwl
   obtain⟨W,hW⟩:∃ W,W=wordL ((k:Int)+1):=⟨_,rfl⟩
   rw[← hW] at HS HW
   have HWe:=Lib.hid hW
   clear hW hwl
   go_wp2_with (first
    | (go_at_call 59;refine(word_any ((k:Int)+1) wr).mono ?_;rw[← HWe.out];rintro e w' ⟨rfl,rfl⟩)
    | (refine sPut Tryz.underlying131 _ _ _ rfl rfl (by rfl) HM.out HW.out (by rfl) (by rfl) (by unfold maxLen;omega) ?_;intro wE hME htE;have HME:=Lib.hid hME;have HTE:=Lib.hid htE;clear hME htE))
   exact⟨⟨k+1,hlt,by go_num,Lib.hid (by rw[← HS.out];exact HME.out),Lib.hid (mturned HB.out HTE.out (Nat.le_refl _) hszr)⟩,by simp[intOf];omega⟩
  ·obtain rfl:k=6:=by omega
   go_wp2_with fail
   go_ret
   exact⟨_,rfl,HM.out,HB.out⟩
theorem hexB_len:∀(k:Nat) (s d:Bs),s.length≤k→hexB s=some d→s.length=2*d.length:=by
 intro k s d _ h
 have:=hexL_hexB _ s d (Nat.le_refl _) h
 rw[← this,hexL_length]
theorem idxB_digits(c:UInt8):Lib.indexByte digitsS.data.toList c=if digV c≤15 then (digV c:Int) else -1:=by
 have key:∀ n,n<256→Lib.indexByte digitsS.data.toList (UInt8.ofNat n)=if digV (UInt8.ofNat n)≤15 then (digV (UInt8.ofNat n):Int) else -1:=by decide +kernel
 have:=key c.toNat (UInt8.toNat_lt c)
 simpa using this
theorem idxB_call(z:Nat)(w:World):
  Calls Tryz.prog 143 #[.string ⟨#[48,49,50,51,52,53,54,55,56,57,97,98,99,100,101,102]⟩,.int .u8 (z:Int)] w fun e w'=>e = .returned (.int .i64 (if digV (UInt8.ofNat z)≤15 then (digV (UInt8.ofNat z):Int) else -1))∧w'=w:=by
 have h:=Tryz.strings_IndexByte digitsS (z:Int) w
 rw[show((z:Int).toNat.toUInt8)=UInt8.ofNat z from rfl,idxB_digits] at h
 exact h
theorem drop_two{s:Bs}{j:Nat}(h:2*j+1<s.length):s.drop (2*j)=s[2*j] :: s[2*j+1] :: s.drop (2*(j+1)):=by
 rw[List.drop_eq_getElem_cons (by omega),List.drop_eq_getElem_cons (by omega)]
 rfl
theorem bits_hex(a b:Nat)(ha:a<16)(hb:b<16):bits .or .i64 (16*(a:Int)) (b:Int)=((16*a+b:Nat):Int):=by
 have key:∀ a:Nat,a<16→∀ b:Nat,b<16→bits .or .i64 (16*(a:Int)) (b:Int)=((16*a+b:Nat):Int):=by decide +kernel
 exact key a ha b hb
def dataR(s:Bs):Bs×Bool:=if s.length=0∨s.length>262144 then ([],false) else match hexB s with
 | some d=>(d,true)
 | none=>([],false)
theorem hexB_odd:∀(k:Nat) (s:Bs),s.length≤k→s.length % 2=1→hexB s=none:=by
 intro k s _ ho
 cases h:hexB s with
 | none=>rfl
 | some d=>have:=hexB_len _ s d (Nat.le_refl _) h;omega
theorem parseData_any(s:Bs)(w:World)(hm:s.length≤100000000):
  Calls Tryz.prog 94 #[.string (SBy s)] w fun e w'=>∃ v,e = .returned (.tuple #[v,.bool (dataR s).2])∧OwnB w' w.heap.size v (dataR s).1∧Below w.heap.size w w':=by
 have hix:=idx_at s
 obtain⟨S,hS⟩:∃ S,S=SBy s:=⟨_,rfl⟩
 have hsz:S.size=s.length:=by rw[hS,SB_size]
 rw[← hS] at hix ⊢
 have HIX:=Lib.hid hix
 clear hix hS
 have hnil:OwnB w w.heap.size (.slice none 0 0) []:=World.ownsRow_nil _ _ _ _
 rcases Bool.eq_false_or_eq_true ((s.length:Int) == 0) with t1|t1
 ·have HN:Hid (dataR s=([],false)):=Lib.hid (by unfold dataR;rw[if_pos];left;have:=beq_iff_eq.1 t1;omega)
  go_enter Tryz.func94,Tryz.ntmps94
  go_wp2_with fail
  go_ret2
  exact⟨_,by rw[HN.out];rfl,by rw[HN.out];exact hnil,Below.refl _ _⟩
 have hne:s.length≠0:=by have:=beq_eq_false_iff_ne.1 t1;omega
 obtain⟨q,hq⟩:∃ q:Nat,q=s.length % 2:=⟨_,rfl⟩
 have y1:(s.length:Int).tmod 2=(q:Int):=by rw[Int.tmod_eq_emod_of_nonneg (by omega)];omega
 have y2:(s.length:Int) % 2=(q:Int):=by omega
 have y3:IntKind.i64.wrap (q:Int)=q:=IntWalk.i64_in _ (by omega)
 rcases Bool.eq_false_or_eq_true ((q:Int) != 0) with t2|t2
 ·have HN:Hid (dataR s=([],false)):=Lib.hid (by
   unfold dataR
   split
   ·rfl
   ·rw[hexB_odd _ s (Nat.le_refl _) (by rw[bne_iff_ne] at t2;omega)])
  clear hq
  go_enter Tryz.func94,Tryz.ntmps94
  go_wp2_with fail
  go_ret2
  exact⟨_,by rw[HN.out];rfl,by rw[HN.out];exact hnil,Below.refl _ _⟩
 rcases Bool.eq_false_or_eq_true (decide ((262144:Int)<s.length)) with t3|t3
 ·have HN:Hid (dataR s=([],false)):=Lib.hid (by unfold dataR;rw[if_pos];right;have:=of_decide_eq_true t3;omega)
  clear hq
  go_enter Tryz.func94,Tryz.ntmps94
  go_wp2_with fail
  go_ret2
  exact⟨_,by rw[HN.out];rfl,by rw[HN.out];exact hnil,Below.refl _ _⟩
 have hl:s.length≤262144:=by have:=of_decide_eq_false t3;omega
 have hq0:q=0:=by simpa using t2
 obtain⟨h,hh⟩:∃ h:Nat,s.length=2*h:=⟨s.length/2,by omega⟩
 clear hq0
 have HDR:Hid (dataR s=match hexB s with|some d=>(d,true)|none=>([],false)):=Lib.hid (by unfold dataR;rw[if_neg (by omega)])
 have z1:(s.length:Int).tdiv 2=(h:Int):=by rw[Int.tdiv_eq_ediv_of_nonneg (by omega)];omega
 have z2:(s.length:Int)/2=(h:Int):=by omega
 have z3:IntKind.i64.wrap (h:Int)=h:=IntWalk.i64_in _ (by omega)
 obtain⟨i,hi,hz,hs1,hby⟩:=iByte
 obtain⟨w1,hmk,hown,hgr⟩:=run_make_own (P:=Tryz.prog) w w.heap.size 68 5 i (.int .u8 0) 1 Tryz.underlying68 hi hz hs1 .i64 .i64 h (by rw[hby];omega) (by unfold maxLen;omega) (Nat.le_refl _)
 have HO:=Lib.hid hown
 have HB1:Hid (Below w.heap.size w w1):=Lib.hid ((Below.refl _ w).grown hgr (Nat.le_refl _) (fun k hk=>by cases hk))
 obtain⟨v0,hv0⟩:∃ v0,v0=Value.slice (some ⟨w.heap.size,0,none⟩) 0 h:=⟨_,rfl⟩
 rw[← hv0] at hmk HO
 have HH:=Lib.hid hh
 clear hown hgr hq hv0 hi hz hs1 hby hh
 go_enter Tryz.func94,Tryz.ntmps94
 go_wp2_with fail
 clear hmk
 go_loopw [4,5] (fun m i wr=>∃(j:Nat) (D:Bs),j≤h∧i = .int .i64 ((2*j:Nat):Int)∧D.length=j∧Hid (OwnB wr w.heap.size m D)∧Hid (Below w.heap.size w wr)∧Hid (hexB s=(hexB (s.drop (2*j))).map (D++·))) (fun _ i _=>s.length-(intOf i).toNat)
 case atStart=>exact⟨0,[],Nat.zero_le _,rfl,rfl,HO,HB1,Lib.hid (by simp)⟩
 case round=>
  obtain⟨j,D,hj,rfl,hDl,HOJ,HBJ,HXJ⟩:=hrel
  have hszr:=HBJ.size
  rcases Nat.lt_or_ge j h with hlt|hge
  ·have hh1:2*j+1<s.length:=by have:=HH.out;omega
   have hdr:=drop_two (s:=s) (j:=j) hh1
   have hx0:=HIX.out (2*j) (by omega)
   have hx1:=HIX.out (2*j+1) (by omega)
   obtain⟨x,hx⟩:∃ x,x=s[2*j]:=⟨_,rfl⟩
   obtain⟨y,hy⟩:∃ y,y=s[2*j+1]:=⟨_,rfl⟩
   rw[← hx] at hx0 hdr
   rw[← hy] at hx1 hdr
   clear hx hy
   rw[hdr] at HXJ
   have hcx:=fun w=>idxB_call x.toNat w
   have hcy:=fun w=>idxB_call y.toNat w
   rw[UInt8.ofNat_toNat] at hcx hcy
   obtain⟨zx,hzx⟩:∃ zx,zx=(x.toNat:Int):=⟨_,rfl⟩
   obtain⟨zy,hzy⟩:∃ zy,zy=(y.toNat:Int):=⟨_,rfl⟩
   rw[← hzx] at hcx hx0
   rw[← hzy] at hcy hx1
   clear hzx hzy hdr
   obtain⟨a,ha⟩:∃ a,a=digV x:=⟨_,rfl⟩
   obtain⟨b,hb⟩:∃ b,b=digV y:=⟨_,rfl⟩
   rw[← ha] at hcx
   rw[← hb] at hcy
   have HHX:Hid (hexB (x :: y :: s.drop (2*(j+1)))=if a≤15∧b≤15 then (hexB (s.drop (2*(j+1)))).map (UInt8.ofNat (a*16+b) :: ·) else none):=Lib.hid (by rw[ha,hb];rfl)
   clear ha hb
   obtain⟨p,hp⟩:∃ p,p=((2*j:Nat):Int):=⟨_,rfl⟩
   have hp1:((2*j+1:Nat):Int)=p+1:=by omega
   rw[← hp] at hx0 ⊢
   rw[hp1] at hx1
   have t5:decide (p<(s.length:Int))=true:=by simp;omega
   have y5:IntKind.i64.wrap (p+1)=p+1:=IntWalk.i64_in _ (by omega)
   have y6:IntKind.i64.wrap (p+2)=p+2:=IntWalk.i64_in _ (by omega)
   have HCX:=Lib.hid hcx
   have HCY:=Lib.hid hcy
   have hp0:0≤p:=by omega
   have hp2:p+1<(s.length:Int):=by omega
   have HP:=Lib.hid hp
   clear hcx hcy hp hp1
   have HBAD:Hid (¬(a≤15∧b≤15)→dataR s=([],false)):=Lib.hid (fun hn=>by
    rw[HDR.out,HXJ.out,HHX.out,if_neg hn];rfl)
   rcases Nat.lt_or_ge 15 a with ha|ha
   ·have HN:=Lib.hid (HBAD.out (by omega))
    have e1:(if a≤15 then (a:Int) else -1) = -1:=if_neg (by omega)
    have HCX2:=HCX
    rw[e1] at HCX2
    obtain⟨yb,hyb⟩:∃ yb,yb=(if b≤15 then (b:Int) else -1):=⟨_,rfl⟩
    rw[← hyb] at HCY
    clear HCX e1 hyb
    go_wp2_with (first
     | (go_at_call 143;refine(HCX2.out _).mono ?_;rintro e w' ⟨rfl,rfl⟩)
     | (go_at_call 143;refine(HCY.out _).mono ?_;rintro e w' ⟨rfl,rfl⟩))
    go_ret2
    exact⟨_,by rw[HN.out];rfl,by rw[HN.out];exact World.ownsRow_nil _ _ _ _,HBJ.out⟩
   ·rw[if_pos ha] at HCX
    have hd1:decide ((a:Int)<0)=false:=by simp
    rcases Nat.lt_or_ge 15 b with hb|hb
    ·have HN:=Lib.hid (HBAD.out (by omega))
     rw[if_neg (by omega)] at HCY
     go_wp2_with (first
      | (go_at_call 143;refine(HCX.out _).mono ?_;rintro e w' ⟨rfl,rfl⟩)
      | (go_at_call 143;refine(HCY.out _).mono ?_;rintro e w' ⟨rfl,rfl⟩))
     go_ret2
     exact⟨_,by rw[HN.out];rfl,by rw[HN.out];exact World.ownsRow_nil _ _ _ _,HBJ.out⟩
    ·rw[if_pos hb] at HCY
     have hd2:decide ((b:Int)<0)=false:=by simp
     have k1:IntKind.i64.wrap ((a:Int)*16)=16*(a:Int):=by rw[Int.mul_comm];exact IntWalk.i64_in _ (by omega)
     have k2:=bits_hex a b (by omega) (by omega)
     have k3:IntKind.u8.wrap (((16*a+b:Nat):Int))=((16*a+b:Nat):Int):=by unfold IntKind.wrap;simp[IntKind.signed,IntKind.bits];omega
     obtain⟨c,hc⟩:∃ c:UInt8,c=UInt8.ofNat (a*16+b):=⟨_,rfl⟩
     have k4:((16*a+b:Nat):Int)=(c.toNat:Int):=by rw[hc,ofNat_toNat (by omega)];omega
     rw[← hc] at HHX
     rw[k4] at k2 k3
     clear hc k4
     go_wp2_with (first
      | (go_at_call 143;refine(HCX.out _).mono ?_;rintro e w' ⟨rfl,hw'⟩;rw[hw'];clear hw')
      | (go_at_call 143;refine(HCY.out _).mono ?_;rintro e w' ⟨rfl,hw'⟩;rw[hw'];clear hw')
      | (at_builtin;refine app tByt (.tmp 47) (.tmp 53) rfl rfl (by rfl) (World.ownsRow.alloc HOJ.out _) (by rfl) (Sn.new wr (Lib.byteCells [c]).toArray 5 1 1 rfl) (byteCells_one [c]) (by unfold maxLen;omega) (by omega) (by simp;omega) ?_;intro v3 w3 hown hgrow _;rw[List.toList_toArray,← byteCells_append] at hown;have HO3:=Lib.hid hown;have HB3:=Lib.hid ((HBJ.alloc hszr _).grown hgrow (by simp;omega) (fun g hg=>(World.ownsRow.lt HOJ.out g hg).1));clear hown hgrow))
     exact⟨⟨j+1,D++[c],by omega,by rw[HP.out];congr 1,by simp;omega,Lib.hid (by unfold OwnB;rw[List.length_append];exact HO3.out),HB3,Lib.hid (by rw[HXJ.out,HHX.out,if_pos ⟨ha,hb⟩,Option.map_map];congr 1;funext l;simp)⟩,by rw[HP.out];simp[intOf];omega⟩
  ·obtain rfl:j=h:=by omega
   have hx:=HXJ.out
   have hh2:s.length≤2*j:=by have:=HH.out;omega
   rw[show s.drop (2*j)=[] from List.drop_eq_nil_of_le hh2] at hx
   have HN:Hid (dataR s=(D,true)):=Lib.hid (by rw[HDR.out,hx];simp[hexB])
   clear hx
   have t5:decide (((2*j:Nat):Int)<(s.length:Int))=false:=by simp;omega
   have t6:decide (2*j<s.length)=false:=by simp;omega
   go_wp2_with fail
   go_ret2
   exact⟨_,by rw[HN.out];rfl,by rw[HN.out];exact HOJ.out,HBJ.out⟩
theorem tInt:SlT Tryz.prog 69 3 1 8:=SlT.mk' Tryz.underlying69 (z:=.int .i64 0) (by kernel_rfl) rfl (by decide)
theorem intC_one(l:List Int):∀ u∈intC l,u.oneCell'=true:=by
 intro u hu
 simp only[intC,List.mem_map] at hu
 obtain⟨_,_,rfl⟩:=hu
 rfl
theorem intC_append(x y:List Int):intC (x++y)=intC x++intC y:=by simp[intC]
def OwnI(w:World)(base:Nat)(v:Value)(l:List Int):Prop:=w.ownsRow base 3 1 v l.length (intC l)
def runC:List Bs→List Int→Option (List Int)
 | [],acc=>some acc
 | x :: ws,acc=>match numB x with
  | none=>none
  | some n=>if 64<n∨acc.length=20 then none else runC ws (acc++[(n:Int)])
def crashR(s:Bs):(Int×List Int)×Bool:=match numB ((split 32 s).headD []) with
 | none=>((0,[]),false)
 | some n=>match runC (split 32 s).tail [] with
  | none=>((0,[]),false)
  | some cs=>(((n:Int),cs),true)
def lenV:Value→Nat
 | .string s=>s.size
 | _=>0
def measV(rest more:Value):Nat:=match more with
 | .bool true=>lenV rest+1
 | _=>0
theorem numR_of(s:Bs):(numB s=none∧numR s=(0,false))∨∃ n,numB s=some n∧numR s=((n:Int),true):=by
 cases h:numB s with
 | none=>exact .inl ⟨rfl,numR_none h⟩
 | some n=>exact .inr ⟨n,rfl,numR_some h⟩
theorem cut_res(s:Bs)(hs:s.length≤100000000):∃(x r:Bs) (mb:Bool),Lib.cut s [32]=(x,r,mb)∧(split 32 s).headD []=x∧(split 32 s).tail=(if mb then split 32 r else [])∧x.length≤s.length∧r.length≤s.length∧(mb=true→r.length<s.length)∧(s.length≤100000000):=by
 rcases cut_ways 32 s with ⟨_,h2,h3⟩|⟨w,r,h1,h2,h3⟩
 ·exact⟨s,[],false,h3,by rw[h2];rfl,by rw[h2];rfl,Nat.le_refl _,by simp,(fun h=>by cases h),hs⟩
 ·have hl:s.length=w.length+(r.length+1):=by rw[h1];simp
  exact⟨w,r,true,h3,by rw[h2];rfl,by rw[h2];rfl,by omega,by omega,(fun _=>by omega),hs⟩
theorem parseCrash_any(s:Bs)(w:World)(hml:ML w)(hs:s.length≤100000000):
  Calls Tryz.prog 96 #[.string (SBy s)] w fun e w'=>∃ v,e = .returned (.tuple #[.int .i64 (crashR s).1.1,v,.bool (crashR s).2])∧OwnI w' w.heap.size v (crashR s).1.2∧Below w.heap.size w w':=by
 have HML:=Lib.hid hml
 obtain⟨x,r,mb,hcut,hhd,htl,hxl,hrl,hrm,_⟩:=cut_res s hs
 have hcall:=cut_call 32 s w hml hs
 rw[hcut] at hcall
 have HCALL:Hid (Calls Tryz.prog 93 #[.string (SBy s),.string ⟨#[32]⟩] w fun e w'=>e = .returned (.tuple #[.string (SBy x),.string (SBy r),.bool mb])∧∃ n,w'=w.drewN n):=Lib.hid hcall
 have HNUM:=Lib.hid (fun w1=>parseNumber_any x w1 (by omega))
 have HRES:Hid (crashR s=match numB x with|none=>((0,[]),false)|some n=>match runC (if mb then split 32 r else []) [] with|none=>((0,[]),false)|some cs=>(((n:Int),cs),true)):=Lib.hid (by unfold crashR;rw[hhd,htl])
 have HRL:=Lib.hid hrl
 clear hcall hml hcut hhd htl hxl hrm hrl
 rcases numR_of x with ⟨hn,hr⟩|⟨n,hn,hr⟩
 ·have HN:Hid (crashR s=((0,[]),false)):=Lib.hid (by rw[HRES.out,hn])
  rw[hr] at HNUM
  clear hn hr
  go_enter Tryz.func96,Tryz.ntmps96
  go_wp2_with (first
   | (go_at_call 93;refine HCALL.mono ?_;rintro e w' ⟨rfl,dn,rfl⟩)
   | (go_at_call 95;refine(HNUM.out _).mono ?_;rintro e w' ⟨rfl,rfl⟩))
  go_ret3
  exact⟨_,by rw[HN.out];rfl,by rw[HN.out];exact World.ownsRow_nil _ _ _ _,bdrewN (Below.refl _ _) _⟩
 ·have HN:Hid (crashR s=match runC (if mb then split 32 r else []) [] with|none=>((0,[]),false)|some cs=>(((n:Int),cs),true)):=Lib.hid (by rw[HRES.out,hn])
  rw[hr] at HNUM
  clear hn hr HRES
  go_enter Tryz.func96,Tryz.ntmps96
  go_wp2_with (first
   | (go_at_call 93;refine HCALL.mono ?_;rintro e w' ⟨rfl,dn,rfl⟩)
   | (go_at_call 95;refine(HNUM.out _).mono ?_;rintro e w' ⟨rfl,hw'⟩;rw[hw'];clear hw'))
  go_loopw [6,7,10] (fun rest more cuts wr=>∃(r1:Bs) (m1:Bool) (acc:List Int),rest = .string (SBy r1)∧more = .bool m1∧acc.length≤20∧r1.length≤100000000∧Hid (OwnI wr w.heap.size cuts acc)∧Hid (Below w.heap.size w wr)∧Hid (runC (if mb then split 32 r else []) []=runC (if m1 then split 32 r1 else []) acc)) (fun rest more _ _=>measV rest more)
  case atStart=>exact⟨r,mb,[],rfl,rfl,by simp,by have:=HRL.out;omega,Lib.hid (World.ownsRow_nil _ _ _ _),Lib.hid (bdrewN (Below.refl _ _) _),Lib.hid rfl⟩
  case round=>
   obtain⟨r1,m1,acc,rfl,rfl,hacc,hr1,HO,HB,HR⟩:=hrel
   have hszr:=HB.size
   cases m1 with
   | false=>
    have HF:Hid (crashR s=(((n:Int),acc),true)):=Lib.hid (by rw[HN.out,HR.out];rfl)
    go_wp2_with fail
    go_ret3
    exact⟨_,by rw[HF.out];rfl,by rw[HF.out];exact HO.out,HB.out⟩
   | true=>
    obtain⟨x2,r2,m2,hcut,hhd,htl,hxl,hrl,hrm,_⟩:=cut_res r1 hr1
    have hcall:=cut_call 32 r1 wr (HML.below HB.out) hr1
    rw[hcut] at hcall
    have HCALL2:Hid (Calls Tryz.prog 93 #[.string (SBy r1),.string ⟨#[32]⟩] wr fun e w'=>e = .returned (.tuple #[.string (SBy x2),.string (SBy r2),.bool m2])∧∃ n,w'=wr.drewN n):=Lib.hid hcall
    have HNUM2:=Lib.hid (fun w1=>parseNumber_any x2 w1 (by omega))
    have HR2:Hid (runC (if mb then split 32 r else []) []=runC (x2 :: (if m2 then split 32 r2 else [])) acc):=Lib.hid (by
     rw[HR.out,if_pos rfl,← hhd,← htl]
     obtain⟨a,b,e⟩:=split_form 32 r1
     rw[e];rfl)
    have HM:Hid (measV (.string (SBy r2)) (.bool m2)<measV (.string (SBy r1)) (.bool true)):=Lib.hid (by
     cases m2 with
     | false=>simp[measV,lenV]
     | true=>have:=hrm rfl;simp[measV,lenV,SB_size];omega)
    have hr2:r2.length≤100000000:=by omega
    clear hcall hcut hhd htl hrm
    rcases numR_of x2 with ⟨hn2,hrr⟩|⟨n2,hn2,hrr⟩
    ·have HF:Hid (crashR s=((0,[]),false)):=Lib.hid (by rw[HN.out,HR2.out,runC,hn2])
     rw[hrr] at HNUM2
     clear hn2 hrr
     go_wp2_with (first
      | (go_at_call 93;refine HCALL2.mono ?_;rintro e w' ⟨rfl,d2,rfl⟩)
      | (go_at_call 95;refine(HNUM2.out _).mono ?_;rintro e w' ⟨rfl,hw'⟩;rw[hw'];clear hw'))
     go_ret3
     exact⟨_,by rw[HF.out];rfl,by rw[HF.out];exact World.ownsRow_nil _ _ _ _,bdrewN HB.out _⟩
    ·have HC2:Hid (runC (x2 :: (if m2 then split 32 r2 else [])) acc=if 64<n2∨acc.length=20 then none else runC (if m2 then split 32 r2 else []) (acc++[(n2:Int)])):=Lib.hid (by rw[runC,hn2])
     have hnb:=(numB_some hn2).2
     rw[hrr] at HNUM2
     clear hn2 hrr
     rcases Bool.eq_false_or_eq_true (decide ((64:Int)<n2)) with t1|t1
     ·have HF:Hid (crashR s=((0,[]),false)):=Lib.hid (by rw[HN.out,HR2.out,HC2.out,if_pos (.inl (by have:=of_decide_eq_true t1;omega))])
      go_wp2_with (first
       | (go_at_call 93;refine HCALL2.mono ?_;rintro e w' ⟨rfl,d2,rfl⟩)
       | (go_at_call 95;refine(HNUM2.out _).mono ?_;rintro e w' ⟨rfl,hw'⟩;rw[hw'];clear hw'))
      go_ret3
      exact⟨_,by rw[HF.out];rfl,by rw[HF.out];exact World.ownsRow_nil _ _ _ _,bdrewN HB.out _⟩
     obtain⟨A4,c4,e4,_⟩:=id (show ∃ A4 c4,u10 = .slice A4 acc.length c4∧True by
      rcases HO.out.2 with ⟨h1,h2⟩|⟨g,cap,cur,h1,_⟩
      ·exact⟨none,0,by rw[h1,h2],trivial⟩
      ·exact⟨_,_,h1,trivial⟩)
     subst e4
     rcases Bool.eq_false_or_eq_true ((acc.length:Int) == 20) with t2|t2
     ·have HF:Hid (crashR s=((0,[]),false)):=Lib.hid (by rw[HN.out,HR2.out,HC2.out,if_pos (.inr (by have:=beq_iff_eq.1 t2;omega))])
      go_wp2_with (first
       | (go_at_call 93;refine HCALL2.mono ?_;rintro e w' ⟨rfl,d2,rfl⟩)
       | (go_at_call 95;refine(HNUM2.out _).mono ?_;rintro e w' ⟨rfl,hw'⟩;rw[hw'];clear hw'))
      go_ret3
      exact⟨_,by rw[HF.out];rfl,by rw[HF.out];exact World.ownsRow_nil _ _ _ _,bdrewN HB.out _⟩
     ·have hne:acc.length≠20:=by have:=beq_eq_false_iff_ne.1 t2;omega
      have HF:Hid (runC (if mb then split 32 r else []) []=runC (if m2 then split 32 r2 else []) (acc++[(n2:Int)])):=Lib.hid (by rw[HR2.out,HC2.out,if_neg (by have:=of_decide_eq_false t1;omega)])
      go_wp2_with (first
       | (go_at_call 93;refine HCALL2.mono ?_;rintro e w' ⟨rfl,d2,hw'⟩;rw[hw'];clear hw')
       | (go_at_call 95;refine(HNUM2.out _).mono ?_;rintro e w' ⟨rfl,hw'⟩;rw[hw'];clear hw')
       | (at_builtin;refine app tInt (.tmp 49) (.tmp 51) rfl rfl (by rfl) (World.ownsRow.alloc (w:=wr.drewN d2) HO.out _) (by rfl) (Sn.new (wr.drewN d2) (intC [(n2:Int)]).toArray 3 1 1 rfl) (intC_one [(n2:Int)]) (by unfold maxLen;omega) (by omega) (by simp;omega) ?_;intro v3 w3 hown hgrow _;rw[List.toList_toArray,← intC_append] at hown;have HO3:=Lib.hid hown;have HB3:=Lib.hid (((bdrewN HB.out d2).alloc hszr _).grown hgrow (by simp;omega) (fun g hg=>(World.ownsRow.lt HO.out g hg).1));clear hown hgrow))
      exact⟨⟨r2,m2,acc++[(n2:Int)],rfl,rfl,by simp;omega,hr2,Lib.hid (by unfold OwnI;rw[List.length_append];exact HO3.out),HB3,HF⟩,HM.out⟩
end
section
def opS(k:Int)(mb:Bool)(r:Bs):Option OpD:=
 if k=2∨k=4 then (if mb then none else some ⟨k,0,[],[]⟩)
 else if k=3 then (if mb then (if (dataR r).2 then some ⟨3,0,(dataR r).1,[]⟩ else none) else some ⟨3,0,[],[]⟩)
 else if k=1∨k=5 then (if (numR r).2 then some ⟨k,(numR r).1,[],[]⟩ else none)
 else if k=6 then (if (crashR r).2 then some ⟨6,(crashR r).1.1,[],(crashR r).1.2⟩ else none)
 else none
def right?(o:Option OpD):Option OpD:=o.bind fun o=>if rightB o then some o else none
theorem numB_sp(r:Bs)(h:(32:UInt8)∈r):numB r=none:=by
 rw[numB_if,if_neg]
 intro e
 simp only[Bool.and_eq_true] at e
 have:=List.all_eq_true.1 e.2.2.2 32 h
 revert this
 decide
theorem hexB_sp(r:Bs)(h:(32:UInt8)∈r):hexB r=none:=by
 cases e:hexB r with
 | none=>rfl
 | some d=>
  have:=hexL_hexB _ r d (Nat.le_refl _) e
  rw[← this] at h
  exact absurd h (hexL_nosp d 32 (by decide))
theorem runC_spec:∀(xs:List Bs) (acc:List Int),acc.length≤20 →
  (∃ cs,cutsOf xs=some cs∧cutsB cs=true∧acc.length+cs.length≤20∧runC xs acc=some (acc++cs))∨(runC xs acc=none∧∀ cs,cutsOf xs=some cs→¬(cutsB cs=true∧acc.length+cs.length≤20))
 | [],acc,h=>.inl ⟨[],rfl,rfl,by simpa using h,by simp[runC]⟩
 | x :: xs,acc,h=>by
  cases hn:numB x with
  | none=>exact .inr ⟨by rw[runC,hn],fun cs e=>by unfold cutsOf at e;rw[hn] at e;cases e⟩
  | some n=>
   by_cases hb:64<n∨acc.length=20
   ·refine .inr ⟨by rw[runC,hn];exact if_pos hb,fun cs e hc=>?_⟩
    unfold cutsOf at e
    rw[hn,Option.bind_some,Option.map_eq_some_iff] at e
    obtain⟨l,_,rfl⟩:=e
    have h1:=(cutsB_iff _).1 hc.1 (n:Int) (by simp)
    have h2:=hc.2
    rw[List.length_cons] at h2
    omega
   ·have hr:runC (x :: xs) acc=runC xs (acc++[(n:Int)]):=by rw[runC,hn];exact if_neg hb
    have ho:cutsOf (x :: xs)=(cutsOf xs).map fun l=>(n:Int) :: l:=by rw[cutsOf,hn];rfl
    have hcb:∀ l,cutsB ((n:Int) :: l)=cutsB l:=fun l=>by
     show(decide (0≤(n:Int)) && decide ((n:Int)≤64) && cutsB l)=cutsB l
     rw[decide_eq_true (by omega),decide_eq_true (by omega)];rfl
    rcases runC_spec xs (acc++[(n:Int)]) (by simp;omega) with ⟨cs,h1,h2,h3,h4⟩|⟨h1,h2⟩
    ·refine .inl ⟨(n:Int) :: cs,by rw[ho,h1];rfl,by rw[hcb];exact h2,?_,by rw[hr,h4];simp⟩
     simp at h3 ⊢;omega
    ·refine .inr ⟨by rw[hr,h1],fun cs e hc=>?_⟩
     rw[ho,Option.map_eq_some_iff] at e
     obtain⟨l,hl,rfl⟩:=e
     rw[hcb] at hc
     exact h2 l hl ⟨hc.1,by have:=hc.2;simp at this ⊢;omega⟩
theorem right6(n:Int)(cs:List Int):rightB ⟨6,n,[],cs⟩=(decide (0≤n) && (decide (n≤1048576) && (cutsB cs && decide (cs.length≤20)))):=by
 unfold rightB
 simp
theorem crash_same(n:Int)(xs:List Bs):right? ((cutsOf xs).map fun cs=>OpD.mk 6 n [] cs)=right? ((runC xs []).map fun cs=>OpD.mk 6 n [] cs):=by
 rcases runC_spec xs [] (by simp) with ⟨cs,h1,_,_,h4⟩|⟨h1,h2⟩
 ·rw[h1,h4];rfl
 ·rw[h1]
  cases hc:cutsOf xs with
  | none=>rfl
  | some cs=>
   have:=h2 cs hc
   show(if rightB ⟨6,n,[],cs⟩ then _ else none)=none
   rw[if_neg]
   rw[right6]
   intro e
   simp only[Bool.and_eq_true,decide_eq_true_eq] at e
   exact this ⟨e.2.2.1,by simpa using e.2.2.2⟩
theorem right3_long(d:Bs)(h:131072<d.length):rightB ⟨3,0,d,[]⟩=false:=by
 unfold rightB
 simp
 omega
theorem parseL_opS(s x r:Bs)(mb:Bool)(hh:(split 32 s).headD []=x)(ht:(split 32 s).tail=if mb then split 32 r else [])(hr:mb=false→r=[]):parseL s=right? (opS (kindOf x) mb r):=by
 unfold parseL
 rw[hh,ht]
 show right? (opW (kindOf x) _)=_
 obtain⟨k,hk⟩:∃ k,k=kindOf x:=⟨_,rfl⟩
 rw[← hk]
 have hrange:=kindOf_range x
 rw[← hk] at hrange
 have hnum:(numB r).map (fun(n:Nat)=>OpD.mk k (n:Int) [] [])=if (numR r).2 then some ⟨k,(numR r).1,[],[]⟩ else none:=by
  rcases numR_of r with ⟨h1,h2⟩|⟨n,h1,h2⟩ <;> (rw[h1,h2];rfl)
 have h1or:k=1∨k=5→right? (opW k (if mb then split 32 r else []))=right? (opS k mb r):=by
  intro h
  have e:opS k mb r=if (numR r).2 then some ⟨k,(numR r).1,[],[]⟩ else none:=by
   unfold opS
   rw[if_neg (by omega),if_neg (by omega),if_pos h]
  rw[e,← hnum]
  congr 1
  unfold opW
  rw[if_pos h]
  cases mb with
  | false=>rw[hr rfl];rfl
  | true=>
   rw[if_pos rfl]
   rcases cut_ways 32 r with ⟨_,h2,_⟩|⟨a,b,h1,h2,_⟩
   ·rw[h2]
   ·rw[h2,numB_sp r (by rw[h1];simp)]
    obtain⟨p,q,e⟩:=split_form 32 b
    rw[e];rfl
 have h2or:k=2∨k=4→right? (opW k (if mb then split 32 r else []))=right? (opS k mb r):=by
  intro h
  congr 1
  unfold opW opS
  rw[if_neg (by omega),if_pos h,if_pos h]
  cases mb with
  | false=>rfl
  | true=>
   obtain⟨p,q,e⟩:=split_form 32 r
   rw[if_pos rfl,e];rfl
 have h3:k=3→right? (opW k (if mb then split 32 r else []))=right? (opS k mb r):=by
  rintro rfl
  cases mb with
  | false=>rfl
  | true=>
   show right? (match split 32 r with | []=>some ⟨3,0,[],[]⟩ | [x]=>if x=[] then none else (hexB x).map fun d=>OpD.mk 3 0 d []|_=>none)=right? (if (dataR r).2 then some ⟨3,0,(dataR r).1,[]⟩ else none)
   rcases cut_ways 32 r with ⟨_,h2,_⟩|⟨a,b,h1,h2,_⟩
   ·rw[h2]
    by_cases hn:r=[]
    ·subst hn;rfl
    ·have hl:r.length≠0:=fun e=>hn (List.length_eq_zero_iff.1 e)
     show right? (if r=[] then none else _)=_
     rw[if_neg hn]
     cases hx:hexB r with
     | none=>
      have:dataR r=([],false):=by unfold dataR;split;rfl;rw[hx]
      rw[this];rfl
     | some d=>
      have hlen:=hexB_len _ r d (Nat.le_refl _) hx
      by_cases hb:r.length>262144
      ·have:dataR r=([],false):=by unfold dataR;rw[if_pos (.inr hb)]
       rw[this]
       show(if rightB ⟨3,0,d,[]⟩ then _ else none)=none
       rw[right3_long d (by omega)];rfl
      ·have:dataR r=(d,true):=by unfold dataR;rw[if_neg (by omega),hx]
       rw[this];rfl
   ·have hm:(32:UInt8)∈r:=by rw[h1];simp
    have:dataR r=([],false):=by unfold dataR;split;rfl;rw[hexB_sp r hm]
    rw[this,h2]
    obtain⟨p,q,e⟩:=split_form 32 b
    rw[e];rfl
 have h6:k=6→right? (opW k (if mb then split 32 r else []))=right? (opS k mb r):=by
  rintro rfl
  have e:opS 6 mb r=if (crashR r).2 then some ⟨6,(crashR r).1.1,[],(crashR r).1.2⟩ else none:=rfl
  rw[e]
  cases mb with
  | false=>rw[hr rfl];rfl
  | true=>
   rw[if_pos rfl]
   obtain⟨p,q,e⟩:=split_form 32 r
   show right? (match split 32 r with|x :: xs=>(numB x).bind fun(n:Nat)=>(cutsOf xs).map fun cs=>OpD.mk 6 (n:Int) [] cs|_=>none)=_
   unfold crashR
   rw[e,List.headD_cons,List.tail_cons]
   show right? ((numB p).bind fun(n:Nat)=>(cutsOf q).map fun cs=>OpD.mk 6 (n:Int) [] cs)=_
   cases hn:numB p with
   | none=>rfl
   | some n=>
    rw[Option.bind_some,crash_same]
    cases runC q [] <;> rfl
 have h0:k=0→right? (opW k (if mb then split 32 r else []))=right? (opS k mb r):=by
  rintro rfl
  rfl
 have:k=0∨(k=1∨k=5)∨(k=2∨k=4)∨k=3∨k=6:=by omega
 rcases this with h|h|h|h|h
 ·exact h0 h
 ·exact h1or h
 ·exact h2or h
 ·exact h3 h
 ·exact h6 h
end
section
open Go.RowKit
def opZ:Array Value:=#[.int .i64 0,.int .i64 0,.slice none 0 0,.slice none 0 0]
def OpV(w:World)(v:Value)(o:OpD):Prop:=∃ A ca B cb,v = .agg #[.int .i64 o.kind,.int .i64 o.n,.slice A o.data.length ca,.slice B o.cuts.length cb]∧Sn w 1 (.slice A o.data.length ca) o.data.length (Lib.byteCells o.data)∧Sn w 1 (.slice B o.cuts.length cb) o.cuts.length (intC o.cuts)
theorem OpV.below{w w':World}{v:Value}{o:OpD}(h:OpV w v o)(hb:Below w.heap.size w w'):OpV w' v o:=by
 obtain⟨A,ca,B,cb,h1,h2,h3⟩:=h
 exact⟨A,ca,B,cb,h1,h2.below hb,h3.below hb⟩
theorem Sn.nil1(w:World)(c:Nat):Sn w 1 (.slice none 0 c) 0 []:=⟨none,c,rfl,Nat.zero_le _,rfl,fun h=>by cases h⟩
def OpN(w:World)(base:Nat)(v:Value)(o:OpD):Prop:=∃ A ca B cb,v = .agg #[.int .i64 o.kind,.int .i64 o.n,.slice A o.data.length ca,.slice B o.cuts.length cb]∧Sn w 1 (.slice A o.data.length ca) o.data.length (Lib.byteCells o.data)∧Sn w 1 (.slice B o.cuts.length cb) o.cuts.length (intC o.cuts)∧(∀ b off,A=some ⟨b,off,none⟩→base≤b∧b<w.heap.size)∧(∀ b off,B=some ⟨b,off,none⟩→base≤b∧b<w.heap.size)
theorem OpN.v{w:World}{base:Nat}{v:Value}{o:OpD}(h:OpN w base v o):OpV w v o:=by
 obtain⟨A,ca,B,cb,h1,h2,h3,_⟩:=h
 exact⟨A,ca,B,cb,h1,h2,h3⟩
theorem OpN.below{w w':World}{base:Nat}{v:Value}{o:OpD}(h:OpN w base v o)(hb:Below w.heap.size w w'):OpN w' base v o:=by
 obtain⟨A,ca,B,cb,h1,h2,h3,h4,h5⟩:=h
 have hs:=hb.size
 exact⟨A,ca,B,cb,h1,h2.below hb,h3.below hb,fun b off e=>by have:=h4 b off e;omega,fun b off e=>by have:=h5 b off e;omega⟩
theorem OpN.mono{w:World}{base base':Nat}{v:Value}{o:OpD}(h:OpN w base v o)(hb:base'≤base):OpN w base' v o:=by
 obtain⟨A,ca,B,cb,h1,h2,h3,h4,h5⟩:=h
 exact⟨A,ca,B,cb,h1,h2,h3,fun b off e=>by have:=h4 b off e;omega,fun b off e=>by have:=h5 b off e;omega⟩
theorem OpV.zero(w:World):OpV w (.agg opZ) op0:=⟨none,0,none,0,rfl,Sn.nil1 w 0,Sn.nil1 w 0⟩
theorem opRow_one(k n:Int)(A:Option Addr)(l ca:Nat)(B:Option Addr)(m cb:Nat):(#[.int .i64 k,.int .i64 n,.slice A l ca,.slice B m cb]:Array Value).all (·.oneCell')=true:=by
 simp[Value.oneCell']
theorem own_far{w:World}{base e s n:Nat}{v:Value}{xs:List Value}(h:w.ownsRow base e s v n xs){g:Nat}(hg:g<base)(i:Nat)(u:Value):(w.setCell ⟨g,i,none⟩ u).ownsRow base e s v n xs:=by
 refine⟨h.1,?_⟩
 rcases h.2 with h'|⟨q,cap,cur,h1,h2,h3,h4⟩
 ·exact .inl h'
 ·exact .inr ⟨q,cap,cur,h1,h2,(Below.heap_setCell w ⟨g,i,none⟩ u q (by simp;omega)).trans h3,h4⟩
theorem own_sn{w:World}{base e s n:Nat}{v:Value}{xs:List Value}(h:w.ownsRow base e s v n xs):∃ A cap,v = .slice A n cap∧Sn w s (.slice A n cap) n xs∧∀ b off,A=some ⟨b,off,none⟩→base≤b∧b<w.heap.size:=by
 have hs:=Sn.own h
 obtain⟨A,cap,rfl,_⟩:=id hs
 exact⟨A,cap,rfl,hs,fun b off e=>h.lt b (by rw[e];rfl)⟩
theorem Sn.other{w w':World}{s n cap:Nat}{A:Option Addr}{xs:List Value}(h:Sn w s (.slice A n cap) n xs){g:Nat}(hA:∀ b off,A=some ⟨b,off,none⟩→g<b)(hw:∀ g',g'≠g→w'.heap[g']? = w.heap[g']?):Sn w' s (.slice A n cap) n xs:=by
 obtain⟨A',cap',hv,h1,h2,hx⟩:=h
 injection hv with e1 _ e3
 subst e1 e3
 refine⟨_,_,rfl,h1,h2,fun hp=>?_⟩
 obtain⟨b,off,e,hc⟩:=hx hp
 exact⟨b,off,e,fun j u hj=>(World.cell?_of_block (hw b (Nat.ne_of_gt (hA b off e)))).trans (hc j u hj)⟩
theorem dataR_len(r:Bs):(dataR r).1.length≤262144:=by
 unfold dataR
 split
 ·simp
 ·cases h:hexB r with
  | none=>simp
  | some d=>have:=hexB_len _ r d (Nat.le_refl _) h;show d.length≤_;omega
theorem crashR_len(r:Bs):(crashR r).1.2.length≤20:=by
 unfold crashR
 split
 ·simp
 ·rename_i n _
  rcases runC_spec (split 32 r).tail [] (by simp) with ⟨cs,_,_,h3,h4⟩|⟨h1,_⟩
  ·rw[h4];simpa using h3
  ·rw[h1];simp
theorem OpN.zero(w:World)(base:Nat):OpN w base (.agg opZ) op0:=⟨none,0,none,0,rfl,Sn.nil1 w 0,Sn.nil1 w 0,(fun _ _ h=>by cases h),fun _ _ h=>by cases h⟩
structure PS(w:World)(g11:Nat)(k:Int)(mb:Bool)(r:Bs)(b:Bool)(n:Int)(d:Bs)(c:List Int)(A:Option Addr)(ca:Nat)(B:Option Addr)(cb:Nat)(wx:World):Prop where
 b11:Blk wx g11 71 #[.int .i64 k,.int .i64 n,.slice A d.length ca,.slice B c.length cb]
 b4:Blk wx w.heap.size 71 opZ
 data:Sn wx 1 (.slice A d.length ca) d.length (Lib.byteCells d)
 cuts:Sn wx 1 (.slice B c.length cb) c.length (intC c)
 bel:Below w.heap.size w wx
 res:opS k mb r=if b then some ⟨k,n,d,c⟩ else none
 gle:w.heap.size+1≤g11
 nA:∀ b off,A=some ⟨b,off,none⟩→w.heap.size<b∧b<wx.heap.size
 nB:∀ b off,B=some ⟨b,off,none⟩→w.heap.size<b∧b<wx.heap.size
 dl:d.length≤1000000000
 cl:c.length≤1000000000
theorem parseLine_any(s:Bs)(b:Nat)(w:World)(hml:ML w)(hs:s.length≤100000000)(hmap:SM w b 6 (kmap 6)):
  Calls Tryz.prog 63 #[.string (SBy s),.map (some b)] w fun e w'=>∃ v,e = .returned (.tuple #[v,.bool (parseL s).isSome])∧OpN w' w.heap.size v ((parseL s).getD op0)∧Below w.heap.size w w':=by
 have HML:=Lib.hid hml
 have HMAP:=Lib.hid hmap
 obtain⟨x,r,mb,hcut,hhd,htl,hxl,hrl,hrm,_⟩:=cut_res s hs
 have hr0:mb=false→r=[]:=fun h=>by
  rcases cut_ways 32 s with ⟨_,_,h3⟩|⟨p,q,_,_,h3⟩
  ·rw[h3] at hcut;exact(Prod.mk.inj (Prod.mk.inj hcut).2).1.symm
  ·rw[h3] at hcut
   have:=(Prod.mk.inj (Prod.mk.inj hcut).2).2
   rw[h] at this;cases this
 have HP:=Lib.hid (parseL_opS s x r mb hhd htl hr0)
 have HCALL:Hid (∀ w1,Below w.heap.size w w1→Calls Tryz.prog 93 #[.string (SBy s),.string ⟨#[32]⟩] w1 fun e w'=>e = .returned (.tuple #[.string (SBy x),.string (SBy r),.bool mb])∧∃ n,w'=w1.drewN n):=Lib.hid (fun w1 hb=>by
  have h:=cut_call 32 s w1 (HML.below hb) hs
  rw[hcut] at h
  exact h)
 have HLK:Hid (∀ w1,Below w.heap.size w w1→(Instr.lookup 131 (.map (some b)) (.string (SBy x)) true).run Tryz.prog w1 = .ok (.tuple #[(kmap 6 x).getD (.int .i64 0),.bool (kmap 6 x).isSome]) w1):=Lib.hid (fun w1 hb=>(HMAP.keep hb).look Tryz.underlying131 (by kernel_rfl) (by unfold SOk maxLen;omega))
 have HRL:Hid (r.length≤100000000):=Lib.hid (by omega)
 clear hml hmap hcut hhd htl hxl hrl hrm hr0
 have hk:=kindOf_range x
 obtain⟨k,hkd⟩:∃ k,k=kindOf x:=⟨_,rfl⟩
 have hkm:kmap 6 x=if k=0 then none else some (.int .i64 k):=by
  unfold kmap
  rw[← hkd] at hk ⊢
  by_cases h:k=0
  ·rw[if_pos h,if_neg (by omega)]
  ·rw[if_neg h,if_pos (by omega)]
 rw[← hkd] at hk HP
 rw[hkm] at HLK
 clear hkd hkm
 have hz:∀ w,(zeroValue 71).run Tryz.prog w = .ok (.agg opZ) w:=fun w=>by kernel_rfl
 by_cases hk0:k=0
 ·subst hk0
  have HF:Hid (parseL s=none):=Lib.hid HP.out
  rw[if_pos rfl] at HLK
  clear HP
  go_enter Tryz.func63,Tryz.ntmps63
  go_wp2_with (first
   | (go_at_call 93;refine(HCALL.out _ (bel1S _ _)).mono ?_;rintro e w' ⟨rfl,dn,hw'⟩;have hbw:Below w.heap.size w w':=(by rw[hw'];exact bdrewN (bel1S _ _) _);have hlk:=HLK.out _ hbw;have HB4:Hid (Blk w' w.heap.size 71 opZ):=Lib.hid (by rw[hw'];exact(Blk.new _ _ _).drewN _);have HBW:=Lib.hid hbw;clear hw' hbw)
   | (refine stBlk 71 (.tmp 4) (.tmp 26) rfl rfl (by rfl) (by rfl) HB4.out (by kernel_rfl) rfl (opRow_one _ _ _ _ _ _ _ _) ?_;intro w2 h2 h3 _ _;have HB2:=Lib.hid h2;have HBE:=Lib.hid (HBW.trans h3);clear h2 h3))
  exact bodyPost_ret (results_cellR_tmp rfl _ rfl HB2.range Tryz.underlying71 rfl (by kernel_rfl)) rfl ⟨_,by rw[HF.out];rfl,by rw[HF.out];exact OpN.zero _ _,HBE.out⟩
 ·rw[if_neg hk0] at HLK
  have hk1:1≤k:=by omega
  go_enter Tryz.func63,Tryz.ntmps63
  go_upto_block 0 with (first
   | (go_at_call 93;refine(HCALL.out _ (bel1S _ _)).mono ?_;rintro e w' ⟨rfl,dn,hw'⟩;have hbw:Below w.heap.size w w':=(by rw[hw'];exact bdrewN (bel1S _ _) _);have hlk:=HLK.out _ hbw;have HB4:Hid (Blk w' w.heap.size 71 opZ):=Lib.hid (by rw[hw'];exact(Blk.new _ _ _).drewN _);have HBW:=Lib.hid hbw;have HSW:Hid (w'.heap.size=w.heap.size+1):=Lib.hid (by rw[hw'];simp);clear hw' hbw)
   | (refine stNew (cells:=#[.int .i64 k,.int .i64 0,.slice none 0 0,.slice none 0 0]) 71 (.tmp 11) (.tmp 28) rfl rfl (by rfl) (by rfl) (by kernel_rfl) rfl (opRow_one _ _ _ _ _ _ _ _) ?_;intro w2 h2 h3 _;have H2:Hid (Blk w2 w'.heap.size 71 #[.int .i64 k,.int .i64 0,.slice none 0 0,.slice none 0 0]):=Lib.hid h2;have HB2:=Lib.hid (bstep HBW.out h3);have HB42:=Lib.hid (HB4.keep h3);have hsz2:w'.heap.size+1≤w2.heap.size:=H2.out.lt;clear h2 h3))
  obtain⟨g,hg⟩:∃ g,g=w'.heap.size:=⟨_,rfl⟩
  rw[← hg] at H2 HSW hsz2
  rw[← hg]
  have HG:Hid (w.heap.size+1≤g):=Lib.hid (by have:=HSW.out;omega)
  clear hg HSW
  go_cut [10] from 30 to 71 (fun okv wx=>∃(bb:Bool) (n:Int) (d:Bs) (c:List Int) (A:Option Addr) (ca:Nat) (B:Option Addr) (cb:Nat),okv = .bool bb∧Hid (PS w g k mb r bb n d c A ca B cb wx))
  case first=>as_aux_lemma=>
   have hkk:k=1∨k=2∨k=3∨k=4∨k=5∨k=6:=by omega
   rcases hkk with e|e|e|e|e|e
   ·obtain rfl:k=1:=by omega
    have hc1:=H2.out.cell 1
    have hf1:=H2.out.frozen 1
    simp only[List.getElem?_toArray,List.getElem?_cons_zero,List.getElem?_cons_succ] at hc1
    have HNUM:=Lib.hid (parseNumber_any r w2 (by have:=HRL.out;omega))
    go_wp2_with (go_at_call 95;refine HNUM.mono ?_;rintro e w3 ⟨rfl,hw3⟩;rw[hw3];clear hw3)
    go_meet
    exact⟨(numR r).2,(numR r).1,[],[],none,0,none,0,rfl,Lib.hid ⟨H2.out.set_ 1 _,HB42.far (by have:=HG.out;simp;omega) _,Sn.nil1 _ _,Sn.nil1 _ _,HB2.setCell (p:=⟨g,1,none⟩) (by have:=HG.out;simp;omega) _,rfl,HG.out,(fun _ _ h=>by cases h),(fun _ _ h=>by cases h),by simp,by simp⟩⟩
   ·obtain rfl:k=2:=by omega
    cases mb with
    | false=>
     go_wp2_with fail
     go_meet
     exact⟨true,0,[],[],none,0,none,0,rfl,Lib.hid ⟨H2.out,HB42.out,Sn.nil1 _ _,Sn.nil1 _ _,HB2.out,rfl,HG.out,(fun _ _ h=>by cases h),(fun _ _ h=>by cases h),by simp,by simp⟩⟩
    | true=>
     go_wp2_with fail
     go_meet
     exact⟨false,0,[],[],none,0,none,0,rfl,Lib.hid ⟨H2.out,HB42.out,Sn.nil1 _ _,Sn.nil1 _ _,HB2.out,rfl,HG.out,(fun _ _ h=>by cases h),(fun _ _ h=>by cases h),by simp,by simp⟩⟩
   ·obtain rfl:k=3:=by omega
    cases mb with
    | false=>
     go_wp2_with fail
     go_meet
     exact⟨true,0,[],[],none,0,none,0,rfl,Lib.hid ⟨H2.out,HB42.out,Sn.nil1 _ _,Sn.nil1 _ _,HB2.out,rfl,HG.out,(fun _ _ h=>by cases h),(fun _ _ h=>by cases h),by simp,by simp⟩⟩
    | true=>
     have HDAT:=Lib.hid (parseData_any r w2 HRL.out)
     have HFIN:Hid (∀(v:Value) (w3:World),OwnB w3 w2.heap.size v (dataR r).1→Below w2.heap.size w2 w3→∃ A ca,v = .slice A (dataR r).1.length ca∧PS w g 3 true r (dataR r).2 0 (dataR r).1 [] A ca none 0 (w3.setCell ⟨g,2,none⟩ v)):=Lib.hid (fun v w3 h1 h2=>by
      obtain⟨A,ca,rfl,hs,hA⟩:=own_sn h1
      have hg2:g<w2.heap.size:=by omega
      refine⟨A,ca,rfl,⟨(H2.out.keep h2).set_ 2 _,(HB42.keep h2).far (by have:=HG.out;simp;omega) _,Sn.own (own_far h1 hg2 2 _),Sn.nil1 _ _,(bstep HB2.out h2).setCell (p:=⟨g,2,none⟩) (by have:=HG.out;simp;omega) _,rfl,HG.out,(fun b off e=>by have:=hA b off e;have:=HG.out;simp;omega),(fun _ _ h=>by cases h),by have:=dataR_len r;omega,by simp⟩⟩)
     go_wp2_with (go_at_call 94;refine HDAT.mono ?_;rintro e w3 ⟨v3,rfl,hown,hb3⟩;have hc2:=(H2.out.keep hb3).cell 2;have hf2:=(H2.out.keep hb3).frozen 2;simp only[List.getElem?_toArray,List.getElem?_cons_zero,List.getElem?_cons_succ] at hc2;obtain⟨A3,ca3,e3,hps⟩:=HFIN.out v3 w3 hown hb3;subst e3;have HPS:=Lib.hid hps;clear hps hown)
     go_meet
     exact⟨(dataR r).2,0,(dataR r).1,[],A3,ca3,none,0,rfl,HPS⟩
   ·obtain rfl:k=4:=by omega
    cases mb with
    | false=>
     go_wp2_with fail
     go_meet
     exact⟨true,0,[],[],none,0,none,0,rfl,Lib.hid ⟨H2.out,HB42.out,Sn.nil1 _ _,Sn.nil1 _ _,HB2.out,rfl,HG.out,(fun _ _ h=>by cases h),(fun _ _ h=>by cases h),by simp,by simp⟩⟩
    | true=>
     go_wp2_with fail
     go_meet
     exact⟨false,0,[],[],none,0,none,0,rfl,Lib.hid ⟨H2.out,HB42.out,Sn.nil1 _ _,Sn.nil1 _ _,HB2.out,rfl,HG.out,(fun _ _ h=>by cases h),(fun _ _ h=>by cases h),by simp,by simp⟩⟩
   ·obtain rfl:k=5:=by omega
    have hc1:=H2.out.cell 1
    have hf1:=H2.out.frozen 1
    simp only[List.getElem?_toArray,List.getElem?_cons_zero,List.getElem?_cons_succ] at hc1
    have HNUM:=Lib.hid (parseNumber_any r w2 (by have:=HRL.out;omega))
    go_wp2_with (go_at_call 95;refine HNUM.mono ?_;rintro e w3 ⟨rfl,hw3⟩;rw[hw3];clear hw3)
    go_meet
    exact⟨(numR r).2,(numR r).1,[],[],none,0,none,0,rfl,Lib.hid ⟨H2.out.set_ 1 _,HB42.far (by have:=HG.out;simp;omega) _,Sn.nil1 _ _,Sn.nil1 _ _,HB2.setCell (p:=⟨g,1,none⟩) (by have:=HG.out;simp;omega) _,rfl,HG.out,(fun _ _ h=>by cases h),(fun _ _ h=>by cases h),by simp,by simp⟩⟩
   ·obtain rfl:k=6:=by omega
    have HCR:=Lib.hid (parseCrash_any r w2 (HML.below HB2.out) HRL.out)
    have HFIN:Hid (∀(v:Value) (w3:World),OwnI w3 w2.heap.size v (crashR r).1.2→Below w2.heap.size w2 w3→∃ A ca,v = .slice A (crashR r).1.2.length ca∧PS w g 6 mb r (crashR r).2 (crashR r).1.1 [] (crashR r).1.2 none 0 A ca ((w3.setCell ⟨g,1,none⟩ (.int .i64 (crashR r).1.1)).setCell ⟨g,3,none⟩ v)):=Lib.hid (fun v w3 h1 h2=>by
     obtain⟨A,ca,rfl,hs,hA⟩:=own_sn h1
     have hg2:g<w2.heap.size:=by omega
     refine⟨A,ca,rfl,⟨((H2.out.keep h2).set_ 1 _).set_ 3 _,((HB42.keep h2).far (by have:=HG.out;simp;omega) _).far (by have:=HG.out;simp;omega) _,Sn.nil1 _ _,Sn.own (own_far (own_far h1 hg2 1 _) hg2 3 _),((bstep HB2.out h2).setCell (p:=⟨g,1,none⟩) (by have:=HG.out;simp;omega) _).setCell (p:=⟨g,3,none⟩) (by have:=HG.out;simp;omega) _,rfl,HG.out,(fun _ _ h=>by cases h),(fun b off e=>by have:=hA b off e;have:=HG.out;simp;omega),by simp,by have:=crashR_len r;omega⟩⟩)
    go_wp2_with (go_at_call 96;refine HCR.mono ?_;rintro e w3 ⟨v3,rfl,hown,hb3⟩;have hc1:=(H2.out.keep hb3).cell 1;have hf1:=(H2.out.keep hb3).frozen 1;have hc3:=((H2.out.keep hb3).set_ 1 (.int .i64 (crashR r).1.1)).cell 3;have hf3:=((H2.out.keep hb3).set_ 1 (.int .i64 (crashR r).1.1)).frozen 3;simp only[List.getElem?_toArray,List.getElem?_cons_zero,List.getElem?_cons_succ,List.setIfInBounds_toArray,List.set_cons_succ,List.set_cons_zero] at hc1 hc3;obtain⟨A3,ca3,e3,hps⟩:=HFIN.out v3 w3 hown hb3;subst e3;have HPS:=Lib.hid hps;clear hps hown)
    go_meet
    exact⟨(crashR r).2,(crashR r).1.1,[],(crashR r).1.2,none,0,A3,ca3,rfl,HPS⟩
  case rest=>
  obtain⟨bb,n,d,c,A,ca,B,cb,rfl,HPS⟩:=hcut
  have HR:Hid (parseL s=right? (if bb then some ⟨k,n,d,c⟩ else none)):=Lib.hid (by rw[HP.out,HPS.res])
  clear HB2 HB42 H2 HB4 HBW HLK HCALL hlk
  cases bb with
  | false=>
   have HF:Hid (parseL s=none):=Lib.hid HR.out
   have HB4E:=Lib.hid HPS.b4
   go_wp2_with (first
    | (refine stBlk 71 (.tmp 4) (.tmp 70) rfl rfl (by rfl) (by rfl) HB4E.out (by kernel_rfl) rfl (opRow_one _ _ _ _ _ _ _ _) ?_;intro wE hE1 hE2 _ _;have HE1:=Lib.hid hE1;have HE2:=Lib.hid hE2;clear hE1 hE2))
   exact bodyPost_ret (results_cellR_tmp rfl _ rfl HE1.range Tryz.underlying71 rfl (by kernel_rfl)) rfl ⟨_,by rw[HF.out];rfl,by rw[HF.out];exact OpN.zero _ _,HPS.bel.trans HE2.out⟩
  | true=>
   have hrg:wc.rangeAt g 0 [.int .i64 k,.int .i64 n,.slice A d.length ca,.slice B c.length cb]:=HPS.b11.range
   have HRG:=Lib.hid hrg
   have HRT:=Lib.hid (right_any k n d c A B ca cb wc HPS.cuts (by have:=HPS.cl;omega) (by have:=HPS.dl;omega))
   clear hrg
   rcases Bool.eq_false_or_eq_true (rightB ⟨k,n,d,c⟩) with hr|hr
   ·rw[hr] at HRT
    have HF:Hid (parseL s=some ⟨k,n,d,c⟩):=Lib.hid (by rw[HR.out];show(if rightB _ then _ else none)=_;rw[hr];rfl)
    clear hr HR
    go_wp2_with (first
     | (refine ld 71 (.tmp 11) rfl rfl (by rfl) HRG.out Tryz.underlying71 rfl (by kernel_rfl) ?_)
     | (go_at_call 37;refine HRT.mono ?_;rintro e w5 ⟨rfl,hb5⟩;have HB5:=Lib.hid hb5;have HB4E:=Lib.hid (HPS.b4.keep hb5);have HRG2:Hid (w5.rangeAt g 0 [.int .i64 k,.int .i64 n,.slice A d.length ca,.slice B c.length cb]):=Lib.hid (HPS.b11.keep hb5).range;clear hb5)
     | (refine ld 71 (.tmp 11) rfl rfl (by rfl) HRG2.out Tryz.underlying71 rfl (by kernel_rfl) ?_)
     | (refine stBlk (cells:=#[.int .i64 k,.int .i64 n,.slice A d.length ca,.slice B c.length cb]) 71 (.tmp 4) (.tmp 71) rfl rfl (by rfl) (by rfl) HB4E.out (by kernel_rfl) rfl (opRow_one _ _ _ _ _ _ _ _) ?_;intro wE hE1 hE2 hE3 _;have HE1:=Lib.hid hE1;have HE2:=Lib.hid hE2;have HE3:=Lib.hid hE3;clear hE1 hE2 hE3))
    have HBE:=Lib.hid ((bstep HPS.bel HB5.out).trans HE2.out)
    have HOV:Hid (OpN wE w.heap.size (.agg #[.int .i64 k,.int .i64 n,.slice A d.length ca,.slice B c.length cb]) ⟨k,n,d,c⟩):=Lib.hid ⟨A,ca,B,cb,rfl,(HPS.data.below HB5.out).other (fun b off e=>(HPS.nA b off e).1) HE3.out,(HPS.cuts.below HB5.out).other (fun b off e=>(HPS.nB b off e).1) HE3.out,(fun b off e=>by have h1:=HPS.nA b off e;have h2:=HB5.size;have h3:=HE2.size;omega),fun b off e=>by have h1:=HPS.nB b off e;have h2:=HB5.size;have h3:=HE2.size;omega⟩
    exact bodyPost_ret (results_cellR_tmp rfl _ rfl HE1.range Tryz.underlying71 rfl (by kernel_rfl)) rfl ⟨_,by rw[HF.out];rfl,by rw[HF.out];exact HOV.out,HBE.out⟩
   ·rw[hr] at HRT
    have HF:Hid (parseL s=none):=Lib.hid (by rw[HR.out];show(if rightB _ then _ else none)=_;rw[hr];rfl)
    clear hr HR
    go_wp2_with (first
     | (refine ld 71 (.tmp 11) rfl rfl (by rfl) HRG.out Tryz.underlying71 rfl (by kernel_rfl) ?_)
     | (go_at_call 37;refine HRT.mono ?_;rintro e w5 ⟨rfl,hb5⟩;have HB5:=Lib.hid hb5;have HB4E:=Lib.hid (HPS.b4.keep hb5);clear hb5)
     | (refine stBlk 71 (.tmp 4) (.tmp 70) rfl rfl (by rfl) (by rfl) HB4E.out (by kernel_rfl) rfl (opRow_one _ _ _ _ _ _ _ _) ?_;intro wE hE1 hE2 _ _;have HE1:=Lib.hid hE1;have HE2:=Lib.hid hE2;clear hE1 hE2))
    exact bodyPost_ret (results_cellR_tmp rfl _ rfl HE1.range Tryz.underlying71 rfl (by kernel_rfl)) rfl ⟨_,by rw[HF.out];rfl,by rw[HF.out];exact OpN.zero _ _,(bstep HPS.bel HB5.out).trans HE2.out⟩
end
end Go.Proofs.YtiaigidbcljblaaGreatDoor
