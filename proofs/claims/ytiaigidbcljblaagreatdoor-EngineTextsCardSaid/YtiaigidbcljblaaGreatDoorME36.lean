import Derived.Test.YtiaigidbcljblaaGreatDoorME33
import Derived.Deep.DeepCutAuto
set_option linter.unusedVariables false
set_option linter.unusedSimpArgs false
set_option maxRecDepth 100000
set_option maxHeartbeats 40000000
namespace Go.Proofs.YtiaigidbcljblaaGreatDoor
open Go.RowKit
attribute [local irreducible] wpQuiet wpAnyH
def RLb(gm gd:Nat)(v:Value)(b:Nat):Prop:=b=gm∨b=gd∨v.ownBlock=some b
structure RLX(V:VerF)(c:ConfD)(w0 wr:World)(gv g9 gm gd N k:Nat)(l:List OpD)(v:Value):Prop where
 ve:VE w0 wr gv g9 k N c.key c.skew (stateL V c.skew ⟨newD N,0,none⟩ (l.take k)) (RLb gm gd v)
 own:wr.ownsRow w0.heap.size 31 36 v k ((rowsL V c.skew ⟨newD N,0,none⟩ (l.take k)).flatMap rowC)
 m:Blk wr gm 106 (machC c.key g9 gv)
 d:Blk wr gd 109 doC
theorem run_any{V:VerF}{D:Bs→Prop}{T:World→Prop}{c:ConfD}(A:Option Addr)(cap:Nat)(l:List OpR)(w:World)(hV:VerOK V D T c.key c.skew)(hVd:∀ s b,(V s b).1.2.length=32)(hT:∀ W,Below w.heap.size w W→T W)(hs:Sn w 4 (.slice A l.length cap) l.length (l.flatMap opC))(hin:∀ x∈l,OpI w x)
  (hd:∀ x∈l,x.o.data.length≤9223372036854775807∧x.o.cuts.length≤9223372036854775807) (hD:∀ x∈l,x.o.kind=3→D x.o.data) (hl:l.length≤40) (hsec:c.sec≤30):
  Calls Tryz.prog 23 #[.agg (confC c).toArray,.slice A l.length cap] w (RunQ w (runR V c (opsOf l))):=by
 have HV:=Lib.hid hV
 have HVD:=Lib.hid hVd
 have HTT:=Lib.hid hT
 have HS:=Lib.hid hs
 have HIN:=Lib.hid hin
 have HDL:=Lib.hid hd
 have HDD:=Lib.hid hD
 obtain⟨w1,hw1⟩:∃ W,W=w.alloc (.cells (confC c).toArray 45):=⟨_,rfl⟩
 obtain⟨gc,hgc⟩:∃ g,g=w.heap.size:=⟨_,rfl⟩
 have HB1:Hid (Below w.heap.size w w1):=Lib.hid (by rw[hw1];exact bel1 _ _)
 have HC1:Hid (Blk w1 gc 45 (confC c).toArray):=Lib.hid (by rw[hw1,hgc];exact Blk.new _ _ _)
 have hrow:w1.rangeAt gc 0 (confC c):=by have:=HC1.range;rwa [List.toList_toArray] at this
 have HER:=Lib.hid (eright_any c w1)
 have HCI:Hid ((Tryz.prog.info? 45).map (·.size)=some (confC c).length):=Lib.hid (by rw[confC_length];kernel_rfl)
 obtain⟨n,hn⟩:∃ n,n=l.length:=⟨_,rfl⟩
 have HN:=Lib.hid hn
 rw[← hn] at HS hl ⊢
 clear hV hVd hT hs hin hd hD hn
 cases hrc:rightC c with
 | false=>
  have HR:Hid (runR V c (opsOf l)=(some (15,none),[])):=Lib.hid (by unfold runR;rw[if_pos hrc])
  rw[hrc] at HER
  obtain⟨K,hK⟩:∃ K,K=confC c:=⟨_,rfl⟩
  rw[← hK] at hw1 HER hrow HCI ⊢
  clear hK hrc
  go_enter Tryz.func23,Tryz.ntmps23
  go_upto_region 1 with fail
  rw[← hw1,← hgc]
  clear hw1 hgc
  go_wp2_with (first
   | (refine ld 45 (.tmp 2) rfl rfl (by rfl) hrow Tryz.underlying45 rfl HCI.out ?_)
   | (go_at_call 17;refine HER.mono ?_;rintro e w2 ⟨rfl,hb2⟩))
  go_ret3
  unfold RunQ
  rw[HR.out]
  exact⟨rfl,bstep HB1.out hb2⟩
 | true=>
  rw[hrc] at HER
  have HRC:=Lib.hid hrc
  have hrc2:1≤c.skew∧c.skew≤1073741824∧2≤c.sec∧c.sec≤4096:=by
   unfold rightC at hrc
   simpa using hrc
  have HRC2:=Lib.hid hrc2
  obtain⟨K,hK⟩:∃ K,K=confC c:=⟨_,rfl⟩
  rw[← hK] at hw1 HER hrow HCI ⊢
  have HK:=Lib.hid hK
  have HROW:=Lib.hid hrow
  clear hK hrc hrc2 hrow
  go_enter Tryz.func23,Tryz.ntmps23
  go_upto_region 1 with fail
  rw[← hw1,← hgc]
  clear hw1 hgc
  go_wp2_with (first
   | (refine ld 45 (.tmp 2) rfl rfl (by rfl) HROW.out Tryz.underlying45 rfl HCI.out ?_)
   | (go_at_call 17;refine HER.mono ?_;rintro e w2 ⟨rfl,hb2⟩;have HB2:=Lib.hid (bstep HB1.out hb2);have HC2:=Lib.hid (HC1.keep hb2);clear hb2))
  clear HER HCI HROW
  go_loopw [23] (fun i wr=>∃ k:Nat,k≤n∧i = .int .i64 k∧Hid (Below w2.heap.size w2 wr)∧Hid (∀ j (h:j<(opsOf l).length),j<k→rightB (opsOf l)[j]=true)) (fun i _=>n-(intOf i).toNat)
  case atStart=>exact⟨0,Nat.zero_le _,rfl,Lib.hid (Below.refl _ _),Lib.hid (fun j h hj=>by omega)⟩
  case round=>
   obtain⟨k,hk,rfl,HB,HA⟩:=hrel
   rcases Nat.lt_or_ge k n with hlt|hge
   ·have hltl:k<l.length:=by have:=HN.out;omega
    obtain⟨b,off,eA,hrow⟩:=at_op (HS.below (bstep HB2.out HB.out) |> (by rw[← HN.out];exact ·)) k hltl
    subst eA
    have hmem:=List.getElem_mem hltl
    obtain⟨x,hx⟩:∃ x,x=l[k]:=⟨_,rfl⟩
    rw[← hx] at hrow hmem
    have hix:=HIN.out x hmem
    have hxd:=HDL.out x hmem
    have HXO:Hid (∀ h,(opsOf l)[k]'h=x.o):=Lib.hid (fun h=>by rw[hx];exact opsOf_get l k hltl h)
    have HROW:=Lib.hid hrow
    have HIX:=Lib.hid hix
    have hi0:(0:Int)≤k:=by omega
    have hi1:(k:Int)<n:=by omega
    clear hrow hmem hix hx
    obtain⟨⟨kk,nn,dd,cc⟩,xA,xca,xB,xcb⟩:=x
    have hzr:∀ w,(zeroValue 71).run Tryz.prog w = .ok (.agg opZ) w:=fun w=>by kernel_rfl
    have HZR:=Lib.hid hzr
    clear hzr
    go_upto_region 6 with (first
     | (refine ld 71 (.tmp 26) rfl rfl (by rfl) HROW.out Tryz.underlying71 rfl (by kernel_rfl) ?_)
     | (refine al 71 _ rfl rfl HZR.out ?_)
     | (refine stNew 71 (.tmp 8) (.tmp 27) rfl rfl (by rfl) (by rfl) (by kernel_rfl) (by rfl) (opRow_one _ _ _ _ _ _ _ _) ?_;intro wN hBN hbN hzN))
    obtain⟨g8,hg8⟩:∃ g,g=wr.heap.size:=⟨_,rfl⟩
    rw[← hg8] at hBN ⊢
    have HBN:Hid (wN.rangeAt g8 0 [.int .i64 kk,.int .i64 nn,.slice xA dd.length xca,.slice xB cc.length xcb]):=Lib.hid (Blk.range hBN)
    have HbN:=Lib.hid hbN
    have HRT:=Lib.hid (right_any kk nn dd cc xA xB xca xcb wN (HIX.out.2.below (bstep HB2.out (bstep HB.out hbN))) hxd.2 hxd.1)
    obtain⟨rb,hrb⟩:∃ b,b=rightB ⟨kk,nn,dd,cc⟩:=⟨_,rfl⟩
    rw[← hrb] at HRT
    have HRB:=Lib.hid hrb
    clear hBN hbN hzN hg8 hrb hxd
    go_upto_if 30 with (first
     | (refine ld 71 (.tmp 8) rfl rfl (by rfl) HBN.out Tryz.underlying71 rfl (by kernel_rfl) ?_)
     | (go_at_call 37;refine HRT.mono ?_;rintro e w4 ⟨rfl,hb4⟩;have HB4:Hid (Below w2.heap.size w2 w4):=Lib.hid (bstep HB.out (bstep HbN.out hb4));clear hb4))
    cases rb with
    | true=>
     have HA2:Hid (∀ j (h:j<(opsOf l).length),j<k+1→rightB (opsOf l)[j]=true):=Lib.hid (fun j h hj=>by
      rcases Nat.lt_or_ge j k with h1|h1
      ·exact HA.out j h h1
      ·obtain rfl:j=k:=by omega
       rw[HXO.out h]
       exact HRB.symm)
     go_wp2_with fail
     exact⟨⟨k+1,hlt,by go_num,HB4,HA2⟩,by simp[intOf];omega⟩
    | false=>
     have HR:Hid (runR V c (opsOf l)=(some (16,some (k:Int)),[])):=Lib.hid (by
      have hlo:k<(opsOf l).length:=by rw[opsOf_length];omega
      unfold runR
      rw[if_neg (by rw[HRC.out];simp),badAt_pre HA.out hlo (by rw[HXO.out hlo];exact HRB.symm)])
     go_wp2_with (go_at_call 38;refine(fault_new (k:Int) w4).mono ?_;rintro e w5 ⟨rfl,rfl⟩)
     go_ret3
     unfold RunQ
     rw[HR.out]
     exact⟨rfl,bstep HB2.out HB4.out⟩
   ·obtain rfl:k=n:=by omega
    obtain⟨N,hNN⟩:∃ N,N=c.sec.toNat:=⟨_,rfl⟩
    have hNs:c.sec=(N:Int):=by have:=HRC2.out;omega
    have hN30:N≤30:=by omega
    have HALL:Hid (∀ j (h:j<(opsOf l).length),rightB (opsOf l)[j]=true):=Lib.hid (fun j h=>HA.out j h (by have:=opsOf_length l;have:=HN.out;omega))
    have HR:Hid (runR V c (opsOf l)=(none,rowsL V c.skew ⟨newD N,0,none⟩ (opsOf l))):=Lib.hid (by
     unfold runR
     rw[if_neg (by rw[HRC.out];simp),badAt_all HALL.out,hNN])
    have HCX:=Lib.hid (HC2.keep HB.out)
    obtain⟨_,k17,_⟩:=conf_cells HCX.out
    rw[hNs] at k17
    have HNS:=Lib.hid hNs
    have HNN:=Lib.hid hNN
    have HBW:=Lib.hid (bstep HB2.out HB.out)
    obtain⟨w0,hw0⟩:∃ W,W=wr:=⟨_,rfl⟩
    rw[← hw0] at HCX k17 HBW ⊢
    clear hNs hNN HC1 HC2 HB HB1 HB2 HA hw0
    go_wp2_with fail
    refine(disk_new N w0 (by omega) (by omega)).mono ?_
    rintro e w3 ⟨m,rfl,hdk,hb3,hft⟩
    have HST:Hid (St w0 w3 m (newD N)):=Lib.hid ⟨hdk,hft,hb3⟩
    have HB3:=Lib.hid hb3
    have HC3:=Lib.hid (HCX.keep hb3)
    obtain⟨g9,hg9⟩:∃ g,g=m.g:=⟨_,rfl⟩
    have HVN:=Lib.hid (fun(W:World) (h:St w0 W m (newD N))=>v_new (N:=N) (k:=0) c.key c.skew ⟨HRC2.out.1,HRC2.out.2.1⟩ h List.length_replicate hN30 (Nat.zero_le _))
    rw[← hg9] at HVN ⊢
    have HG9:=Lib.hid hg9
    have HCC:=Lib.hid (conf_cells HC3.out)
    clear hdk hb3 hft hg9 k17
    go_upto_region 10 with fail
    -- region 10
    refine kZ (n:=12) (fun W=>Below w3.heap.size w3 W) ((Below.refl _ _).drew) (h:=fun hH=>?_)
    refine kT 0 (some 37) (.pointer (some ⟨gc,0,none⟩)) (h:=?_)
    simp only[p1,p2,p3,p4,p5]
    refine kL 1 (some 38) (cs:=arr 16 (c8 c.key)) (fun W hX j u hj=>Below.cell' hX (HCC.out.2.2 j u hj)) (arr_length _ _) (h:=?_)
    simp only[p1,p2,p3,p4,p5]
    refine kM 2 (some 39) (.pointer (some ⟨g9,0,none⟩)) (h:=?_)
    simp only[p1,p2,p3,p4,p5]
    refine kT 3 (some 40) (.pointer (some ⟨gc,0,none⟩)) (h:=?_)
    simp only[p1,p2,p3,p4,p5]
    refine kL 4 (some 41) (cs:=arr 16 (c8 c.key)) (fun W hX j u hj=>Below.cell' hX (HCC.out.2.2 j u hj)) (arr_length _ _) (h:=?_)
    simp only[p1,p2,p3,p4,p5]
    refine kT 5 (some 42) (.pointer (some ⟨gc,16,none⟩)) (h:=?_)
    simp only[p1,p2,p3,p4,p5]
    refine kC 6 (some 43) (v:=.int .i64 c.skew) (fun W hX=>Below.cell' hX HCC.out.1) (h:=?_)
    simp only[p1,p2,p3,p4,p5]
    refine kM 7 (some 44) (.pointer (some ⟨g9,0,none⟩)) (h:=?_)
    simp only[p1,p2,p3,p4,p5]
    refine kF 8 (some 45) ((HVN.out _ (HST.keep (Below.refl _ _).drew)).mono ?_)
    rintro e w4 ⟨gv,rfl,hv4,hb4,hgv⟩
    have hb4:=bstep (Below.refl _ w3).drew hb4
    have hH4:=hb4
    refine⟨_,rfl,hH4,fun hH=>?_⟩
    simp only[p1,p2,p3,p4,p5]
    refine kB 9 (some 46) (vs:=[(0,.agg (arr 16 (c8 c.key)).toArray),(1,.pointer (some ⟨g9,0,none⟩)),(2,.pointer (some ⟨gv,0,none⟩))]) (builtMach c.key g9 gv) (h:=?_)
    simp only[p1,p2,p3,p4,p5]
    obtain⟨gm,hgm⟩:∃ g,g=w4.heap.size:=⟨_,rfl⟩
    obtain⟨w5,hw5⟩:∃ W,W=w4.alloc (.cells (machC c.key g9 gv) 106):=⟨_,rfl⟩
    have hb5:Below w4.heap.size w4 w5:=by rw[hw5];exact bel1 _ _
    have hM5:Blk w5 gm 106 (machC c.key g9 gv):=by rw[hw5,hgm];exact Blk.new _ _ _
    have hH5:=bstep hH4 hb5
    refine kS 10 (some 47) (.pointer (some ⟨gm,0,none⟩)) w5 (hrun:=by rw[hw5,hgm];unfold execOp;go_simp) (hS:=hH5) (h:=?_)
    simp only[p1,p2,p3,p4,p5]
    refine kT 11 (some 10) (.pointer (some ⟨gm,0,none⟩)) (h:=?_)
    simp only[p1,p2,p3,p4,p5]
    refine kE (h:=?_)
    have HV5:Hid (VE w0 w5 gv g9 0 N c.key c.skew ⟨newD N,0,none⟩ (fun b=>b=gm)):=Lib.hid ⟨m,_,_,HG9.symm,hv4.keep hb5,fun b hb=>by subst hb;exact⟨hv4.far_new (by omega),hM5.lt⟩⟩
    have HM5:=Lib.hid hM5
    clear hH hb4 hH4 hgv hv4 hgm hw5 hb5 hM5 hH5
    -- end of region 10
    go_upto_region 12 with (first
     | (refine bldC 109 _ rfl rfl rfl builtDo ?_)
     | (refine al 109 doZ rfl rfl zeroDo ?_)
     | (refine stNew 109 (.tmp 11) (.tmp 48) rfl rfl (by rfl) (by rfl) doI (by rfl) doC_one ?_;intro w6 hB6 hb6 hz6))
    simp only[p1,p2,p3,p4,p5]
    obtain⟨gd,hgd⟩:∃ g,g=w5.heap.size:=⟨_,rfl⟩
    rw[← hgd] at hB6 ⊢
    have HD6:Hid (Blk w6 gd 109 doC):=Lib.hid hB6
    have HM6:=Lib.hid (HM5.keep hb6)
    have HV6:=Lib.hid (HV5.keep hb6)
    have HGD:Hid (w5.heap.size≤gd):=Lib.hid (by omega)
    have HB56:=Lib.hid hb6
    clear hB6 hb6 hz6 hgd HM5
    obtain⟨i,z,hi1,hi2,hi3,hi4,_⟩:=tRow.hi
    obtain⟨w7,hmk,hown,hgrow⟩:=run_makeSlice_owned (P:=Tryz.prog) (w:=w6) w0.heap.size 24 31 i z 36 Tryz.underlying24 hi1 hi2 hi3 .i64 .i64 k (by omega) (by rw[hi4];omega) (by unfold maxLen;omega) HV6.bel.size
    have HB7:Hid (Below w6.heap.size w6 w7):=Lib.hid ((Below.refl _ w6).grown hgrow (Nat.le_refl _) (fun b h=>by cases h))
    have HO7:=Lib.hid hown
    have HV7:Hid (VE w0 w7 gv g9 0 N c.key c.skew ⟨newD N,0,none⟩ (RLb gm gd (.slice (some ⟨w6.heap.size,0,none⟩) 0 k))):=Lib.hid (HV5.add (bstep HB56.out HB7.out) (fun b hb=>by
     rcases hb with rfl|rfl|hb
     ·exact .inl rfl
     ·exact .inr ⟨HGD.out,Nat.lt_of_lt_of_le HD6.lt HB7.size⟩
     ·have h1:=(hown.lt b hb).2
      have h2:w6.heap.size=b:=Option.some.inj hb
      have h3:=HB56.size
      exact .inr ⟨by omega,h1⟩))
    have HM7:=Lib.hid (HM6.keep HB7.out)
    have HD7:=Lib.hid (HD6.keep HB7.out)
    have HR7:Hid (RLX V c w0 w7 gv g9 gm gd N 0 (opsOf l) (.slice (some ⟨w6.heap.size,0,none⟩) 0 k)):=Lib.hid ⟨HV7.out,hown,HM7.out,HD7.out⟩
    clear hown hgrow hi1 hi2 hi3 hi4 HV5 HV6 HV7 HM6 HD6 HM7 HD7 HO7 HGD HB56 HB7 HCX HCC HC3 HVN HST HB3
    go_wp2_with fail
    go_loopw [12,54] (fun v0 i wr=>∃(j:Nat) (v:Value),v=v0∧j≤k∧i = .int .i64 j∧Hid (RLX V c w0 wr gv g9 gm gd N j (opsOf l) v)) (fun _ i _=>k-(intOf i).toNat)
    case atStart=>exact⟨0,_,rfl,Nat.zero_le _,rfl,HR7⟩
    case round=>
     clear HR7
     obtain⟨j,v,rfl,hj,rfl,HX⟩:=hrel
     rcases Nat.lt_or_ge j k with hlt|hge2
     ·have hltl:j<l.length:=by have:=HN.out;omega
      obtain⟨b,off,eA,hrow⟩:=at_op (HS.below (bstep HBW.out HX.ve.bel) |> (by rw[← HN.out];exact ·)) j hltl
      subst eA
      have hmem:=List.getElem_mem hltl
      have hjo:j<(opsOf l).length:=by rw[opsOf_length];exact hltl
      have hr:=HALL.out j hjo
      have HSN:=Lib.hid (stateL_snoc V c.skew ⟨newD N,0,none⟩ (opsOf l) j hjo)
      have HRN:=Lib.hid (rowsL_snoc V c.skew ⟨newD N,0,none⟩ (opsOf l) j hjo)
      rw[opsOf_get l j hltl] at hr HSN HRN
      obtain⟨x,hx⟩:∃ x,x=l[j]:=⟨_,rfl⟩
      rw[← hx] at hrow hmem hr HSN HRN
      obtain⟨f,hf,hcf,hMf⟩:=do_op HV.out x hr (HDD.out x hmem)
      have hk7:=rightB_kind hr
      have hk0:0≤x.o.kind:=by omega
      have hk6:x.o.kind<7:=by omega
      have HIX:=Lib.hid ((HIN.out x hmem).below HBW.out)
      have HROW:=Lib.hid hrow
      have HF:=Lib.hid hf
      have HMF:=Lib.hid hMf
      have HT0:=Lib.hid (HTT.out w0 HBW.out)
      have hi0:(0:Int)≤j:=by omega
      have hi1:(j:Int)<k:=by omega
      clear hrow hmem hr hx hf hMf hk7
      have hzr:∀ w,(zeroValue 71).run Tryz.prog w = .ok (.agg opZ) w:=fun w=>by kernel_rfl
      have HZR:=Lib.hid hzr
      clear hzr
      go_upto_region 16 with (first
       | (refine ld 71 (.tmp 56) rfl rfl (by rfl) HROW.out Tryz.underlying71 rfl (by kernel_rfl) ?_)
       | (refine al 71 _ rfl rfl HZR.out ?_)
       | (refine stNew 71 (.tmp 14) (.tmp 57) rfl rfl (by rfl) (by rfl) (by kernel_rfl) (by rfl) (all_oneCell_toArray (opC_one x)) ?_;intro wN hBN hbN hzN))
      simp only[p1,p2,p3,p4,p5]
      obtain⟨gO,hgO⟩:∃ g,g=wr.heap.size:=⟨_,rfl⟩
      rw[← hgO] at hBN ⊢
      have HON:Hid (Blk wN gO 71 (opC x).toArray):=Lib.hid hBN
      have HXN:Hid (VE w0 wN gv g9 j N c.key c.skew (stateL V c.skew ⟨newD N,0,none⟩ ((opsOf l).take j)) (fun b=>RLb gm gd v b∨b=gO)):=Lib.hid (HX.ve.add hbN (fun b hb=>hb.imp id (fun h=>by have:=HON.lt;omega)))
      have HMN:=Lib.hid (HX.m.keep hbN)
      have HDN:=Lib.hid (HX.d.keep hbN)
      have HWN:=Lib.hid (own_below HX.own hbN)
      clear hBN hbN hzN hgO HX
      obtain⟨s,hs⟩:∃ s,s=stateL V c.skew ⟨newD N,0,none⟩ ((opsOf l).take j):=⟨_,rfl⟩
      rw[← hs] at HXN HSN HRN
      have HSS:=Lib.hid hs
      have HAD:Hid ((actS V c.skew s x.o).1.2.length=32):=Lib.hid (by
       unfold actS
       repeat (first|split|rfl|exact HVD.out _ _))
      have HAE:Hid (nextS V c.skew s x.o=lookS (actS V c.skew s x.o).2∧rowE V c.skew s x.o=⟨x.o.kind,(actS V c.skew s x.o).1.1,(actS V c.skew s x.o).2.now,(liveS (actS V c.skew s x.o).2).length,(actS V c.skew s x.o).1.2⟩):=Lib.hid ⟨rfl,rfl⟩
      obtain⟨r,hr⟩:∃ r,r=actS V c.skew s x.o:=⟨_,rfl⟩
      have HMR:Hid (∀ W X,k≤40→VE w0 W gv g9 j N c.key c.skew s X→Blk W gm 106 (machC c.key g9 gv)→X gm→Calls Tryz.prog f #[.pointer (some ⟨gm,0,none⟩),.agg (opC x).toArray] W (MP w0 W gv g9 (j+1) N c.key c.skew X r)):=Lib.hid (fun W X hk h1 h2 h3=>by rw[hr];exact HMF.out w0 W gv g9 gm j N s X HT0.out HIX.out (by omega) h1 h2 h3)
      rw[← hr] at HAD HAE
      clear hs hr HMF
      go_cut [15,16] from 58 to 67 (fun v15 v16 wx=>OpP w0 wN gv g9 (j+1) N c.key c.skew (fun b=>RLb gm gd v b∨b=gO) r v15 v16 wx)
      case first=>
       have HLT:=Lib.hid HXN.lt
       -- region 16
       refine kZ (n:=13) (OpsX gO gd x f) (opsX (W:=wN.drew) HON.out HDN.out HF.out) (h:=fun hH=>?_)
       refine kT 0 (some 59) (.pointer (some ⟨gO,0,none⟩)) (h:=?_)
       simp only[p1,p2,p3,p4,p5]
       refine kC 1 (some 60) (v:=.int .i64 x.o.kind) (fun W hX=>(hX.o 0 _ rfl)) (h:=?_)
       simp only[p1,p2,p3,p4,p5]
       refine kT 2 (some 61) (.pointer (some ⟨gd,x.o.kind.toNat,none⟩)) (h:=?_)
       simp only[p1,p2,p3,p4,p5]
       refine kC 3 (some 62) (v:=.func (.func f) #[] #[]) (fun W hX=>hX.d) (h:=?_)
       simp only[p1,p2,p3,p4,p5]
       refine kM 4 (some 63) (.pointer (some ⟨gm,0,none⟩)) (h:=?_)
       simp only[p1,p2,p3,p4,p5]
       refine kL 5 (some 64) (cs:=opC x) (fun W hX=>hX.o) (rfl) (h:=?_)
       simp only[p1,p2,p3,p4,p5]
       refine wpAnyH_ready (rs:=[6,10]) (by kernel_rfl) (by simp) (rF 6 (some 65) ((HMR.out wN.drew (fun b=>RLb gm gd v b∨b=gO) hl HXN.drew HMN.out (.inl (.inl rfl))).mono ?_) (rA 10 (some 16) dZ zeroDig (opsX (HON.keep (bstep (Below.refl _ wN).drew (bel1 _ _))) (HDN.keep (bstep (Below.refl _ wN).drew (bel1 _ _))) HF.out) ?_ AllReadyH.nil))
       ·rintro e w6 ⟨rfl,hv6,hx6⟩
        have hx6:XT (fun b=>RLb gm gd v b∨b=gO) wN w6:=(XT.of_below HLT.out (Below.refl _ wN).drew).trans hx6
        have hO6:=hx6.blk (.inr rfl) HON.out
        have hD6:=hx6.blk (.inl (.inr (.inl rfl))) HDN.out
        refine⟨_,rfl,opsX hO6 hD6 HF.out,fun hH=>?_⟩
        simp only[p1,p2,p3,p4,p5]
        refine kM 7 (some 58) (.tuple #[.int .i64 r.1.1,.agg (u8s r.1.2).toArray]) (h:=?_)
        simp only[p1,p2,p3,p4,p5]
        refine kT 8 (some 66) (.int .i64 r.1.1) (h:=?_)
        simp only[p1,p2,p3,p4,p5]
        refine kT 9 (some 67) (.agg (u8s r.1.2).toArray) (h:=?_)
        simp only[p1,p2,p3,p4,p5]
        refine wpAnyH_ready (rs:=[10]) (by kernel_rfl) (by simp) (rA 10 (some 16) dZ zeroDig (opsX (hO6.keep (bel1 _ _)) (hD6.keep (bel1 _ _)) HF.out) ?_ AllReadyH.nil)
        simp only[p1,p2,p3,p4,p5]
        obtain⟨g16,hg16⟩:∃ g,g=w6.heap.size:=⟨_,rfl⟩
        obtain⟨w7,hw7⟩:∃ W,W=w6.alloc (.cells dZ 26):=⟨_,rfl⟩
        have hb7:Below w6.heap.size w6 w7:=by rw[hw7];exact bel1 _ _
        have hB16:Blk w7 g16 26 dZ:=by rw[hw7,hg16];exact Blk.new _ _ _
        have hl16:wN.heap.size≤g16:=by rw[hg16];exact hx6.size
        have hv7:VE w0 w7 gv g9 (j+1) N c.key c.skew r.2 (fun b=>(RLb gm gd v b∨b=gO)∨b=g16):=hv6.add hb7 (fun b hb=>hb.imp id (fun h=>by have:=hB16.lt;omega))
        have hx7:=hx6.trans (XT.of_below hv6.lt hb7)
        have hO7:=hO6.keep hb7
        have hD7:=hD6.keep hb7
        rw[← hw7,← hg16]
        clear hw7 hg16
        have hH7:=opsX hO7 hD7 HF.out
        refine kT 11 (some 15) (.int .i64 r.1.1) (h:=?_)
        simp only[p1,p2,p3,p4,p5]
        have hS9:=opsX ((setCells_off g16 (u8s r.1.2) 0 w7).blk hO7 (hne_16 hB16 hO7 (by decide))) ((setCells_off g16 (u8s r.1.2) 0 w7).blk hD7 (hne_16 hB16 hD7 (by decide))) HF.out
        refine kR 12 none (n:=32) (cs:=u8s r.1.2) (there_blk hB16 (by unfold dZ;exact Nat.le_refl _)) (by rw[u8s_length];exact HAD.out) (u8s_mem _) hS9 (h:=?_)
        simp only[p1,p2,p3,p4,p5]
        refine kE (h:=?_)
        have hfin:=opP_end HLT.out HXN.lo hl16 hB16 hv7 hx7 HAD.out
        go_wp2_with fail
        go_meet
        exact hfin
       ·simp only[p1,p2,p3,p4,p5]
        obtain⟨g16,hg16⟩:∃ g,g=wN.heap.size:=⟨_,rfl⟩
        obtain⟨w6,hw6⟩:∃ W,W=wN.drew.alloc (.cells dZ 26):=⟨_,rfl⟩
        have hb6:Below wN.heap.size wN w6:=by rw[hw6];exact bstep (Below.refl _ wN).drew (bel1 _ _)
        have hB6:Blk w6 g16 26 dZ:=by rw[hw6,hg16];exact Blk.new wN.drew _ _
        have hl16:wN.heap.size≤g16:=by omega
        have hv6:VE w0 w6 gv g9 j N c.key c.skew s (fun b=>(RLb gm gd v b∨b=gO)∨b=g16):=HXN.add hb6 (fun b hb=>hb.imp id (fun h=>by have:=hB6.lt;omega))
        have hO6:=HON.keep hb6
        have hD6:=HDN.keep hb6
        have hM6:=HMN.keep hb6
        simp only[World.size_drew]
        rw[← hw6,← hg16]
        clear hw6 hg16
        refine wpAnyH_ready (rs:=[6]) (by kernel_rfl) (by simp) (rF 6 (some 65) ((HMR.out w6 _ hl hv6 hM6 (.inl (.inl (.inl rfl)))).mono ?_) AllReadyH.nil)
        rintro e w7 ⟨rfl,hv7,hx67⟩
        have hB16:=hx67.blk (.inr rfl) hB6
        have hO7:=hx67.blk (.inl (.inr rfl)) hO6
        have hD7:=hx67.blk (.inl (.inl (.inr (.inl rfl)))) hD6
        have hx7:XT (fun b=>RLb gm gd v b∨b=gO) wN w7:=(XT.of_below HLT.out hb6).trans (hx67.less (fun b hb=>.inl hb))
        refine⟨_,rfl,opsX hO7 hD7 HF.out,fun hH=>?_⟩
        simp only[p1,p2,p3,p4,p5]
        refine kM 7 (some 58) (.tuple #[.int .i64 r.1.1,.agg (u8s r.1.2).toArray]) (h:=?_)
        simp only[p1,p2,p3,p4,p5]
        refine kT 8 (some 66) (.int .i64 r.1.1) (h:=?_)
        simp only[p1,p2,p3,p4,p5]
        refine kT 9 (some 67) (.agg (u8s r.1.2).toArray) (h:=?_)
        simp only[p1,p2,p3,p4,p5]
        refine kT 11 (some 15) (.int .i64 r.1.1) (h:=?_)
        simp only[p1,p2,p3,p4,p5]
        have hS9:=opsX ((setCells_off g16 (u8s r.1.2) 0 w7).blk hO7 (hne_16 hB16 hO7 (by decide))) ((setCells_off g16 (u8s r.1.2) 0 w7).blk hD7 (hne_16 hB16 hD7 (by decide))) HF.out
        refine kR 12 none (n:=32) (cs:=u8s r.1.2) (there_blk hB16 (by unfold dZ;exact Nat.le_refl _)) (by rw[u8s_length];exact HAD.out) (u8s_mem _) hS9 (h:=?_)
        simp only[p1,p2,p3,p4,p5]
        refine kE (h:=?_)
        have hfin:=opP_end HLT.out HXN.lo hl16 hB16 hv7 hx7 HAD.out
        go_wp2_with fail
        go_meet
        exact hfin
       -- end of region 16
      case rest=>
       rename World=>w8
       obtain⟨g16,rfl,rfl,hB16,hv8,hx8⟩:=hcut
       have HB8:=Lib.hid hB16
       have HV8:=Lib.hid hv8
       have HX8:=Lib.hid hx8
       have HO8:=Lib.hid (hx8.blk (.inr rfl) HON.out)
       have HM8:=Lib.hid (hx8.blk (.inl (.inl rfl)) HMN.out)
       have HD8:=Lib.hid (hx8.blk (.inl (.inr (.inl rfl))) HDN.out)
       have HW8:=Lib.hid (hx8.own HWN.out (fun b hb=>.inl (.inr (.inr hb))))
       have HNW:=Lib.hid (fun(W:World) (h:VE w0 W gv g9 (j+1) N c.key c.skew r.2 (fun b=>(RLb gm gd v b∨b=gO)∨b=g16))=>e_now h)
       have HLV:=Lib.hid (fun(W:World) (h:VE w0 W gv g9 (j+1) N c.key c.skew (lookS r.2) (fun b=>(RLb gm gd v b∨b=gO)∨b=g16))=>e_live (by omega) h)
       have hll:liveS (lookS r.2)=liveS r.2:=by unfold liveS;rw[lookS_look,lookS_now]
       have hlk:lookS (lookS r.2)=lookS r.2:=lookS_look r.2
       rw[hll,hlk] at HLV
       obtain⟨R,hR⟩:∃ R:RowD,R=⟨x.o.kind,r.1.1,r.2.now,(liveS r.2).length,r.1.2⟩:=⟨_,rfl⟩
       have HBR:=Lib.hid (builtRow (kd:=x.o.kind) (c:=r.1.1) (nw:=r.2.now) (lv:=((liveS r.2).length:Int)) HAD.out)
       rw[← hR] at HBR
       have HRE:=Lib.hid hR
       have HRL:Hid ((rowC R).length=36):=Lib.hid (by rw[hR];unfold rowC;simp[u8s,HAD.out])
       clear hB16 hv8 hx8 hll hlk hR
       go_upto_region 17 with fail
       -- region 17
       refine kZ (n:=20) (RwX gO gm g16 gv x.o.kind r.1.2) (rwX (W:=w8.drew) HO8.out HM8.out HB8.out) (h:=fun hH=>?_)
       refine kM 0 (some 68) (v) (h:=?_)
       simp only[p1,p2,p3,p4,p5]
       refine kT 1 (some 69) (.pointer (some ⟨gO,0,none⟩)) (h:=?_)
       simp only[p1,p2,p3,p4,p5]
       refine kC 2 (some 70) (v:=.int .i64 x.o.kind) (fun W hX=>hX.o) (h:=?_)
       simp only[p1,p2,p3,p4,p5]
       refine kM 3 (some 71) (.int .i64 r.1.1) (h:=?_)
       simp only[p1,p2,p3,p4,p5]
       refine kM 4 (some 72) (.pointer (some ⟨gm,0,none⟩)) (h:=?_)
       simp only[p1,p2,p3,p4,p5]
       refine kT 5 (some 73) (.pointer (some ⟨gm,0,none⟩)) (h:=?_)
       simp only[p1,p2,p3,p4,p5]
       refine kT 6 (some 74) (.pointer (some ⟨gm,17,none⟩)) (h:=?_)
       simp only[p1,p2,p3,p4,p5]
       refine kC 7 (some 75) (v:=.pointer (some ⟨gv,0,none⟩)) (fun W hX=>hX.m) (h:=?_)
       simp only[p1,p2,p3,p4,p5]
       refine kM 9 (some 77) (.pointer (some ⟨gm,0,none⟩)) (h:=?_)
       simp only[p1,p2,p3,p4,p5]
       refine kT 10 (some 78) (.pointer (some ⟨gm,0,none⟩)) (h:=?_)
       simp only[p1,p2,p3,p4,p5]
       refine kT 11 (some 79) (.pointer (some ⟨gm,17,none⟩)) (h:=?_)
       simp only[p1,p2,p3,p4,p5]
       refine kC 12 (some 80) (v:=.pointer (some ⟨gv,0,none⟩)) (fun W hX=>hX.m) (h:=?_)
       simp only[p1,p2,p3,p4,p5]
       refine kL 15 (some 83) (cs:=u8s r.1.2) (fun W hX=>hX.d) ((u8s_length _).trans HAD.out) (h:=?_)
       simp only[p1,p2,p3,p4,p5]
       refine kF 8 (some 76) ((HNW.out _ HV8.drew).mono ?_)
       rintro e w9 ⟨rfl,hv9,hx9⟩
       have HV9:=Lib.hid hv9
       have HX9:Hid (XT (fun b=>(RLb gm gd v b∨b=gO)∨b=g16) w8 w9):=Lib.hid ((XT.of_below HV8.lt (Below.refl _ w8).drew).trans hx9)
       refine⟨_,rfl,rwX (hx9.blk (.inl (.inr rfl)) HO8.out) (hx9.blk (.inl (.inl (.inl rfl))) HM8.out) (hx9.blk (.inr rfl) HB8.out),fun hH=>?_⟩
       simp only[p1,p2,p3,p4,p5]
       refine kF 13 (some 81) ((HLV.out _ HV9.out).mono ?_)
       rintro e w10 ⟨LA,lc,rfl,hls,hv10,hx10⟩
       have hX10:=HX9.trans hx10
       have HV10:=Lib.hid hv10
       have HX10:=Lib.hid hX10
       clear hls
       refine⟨_,rfl,rwX (hX10.blk (.inl (.inr rfl)) HO8.out) (hX10.blk (.inl (.inl (.inl rfl))) HM8.out) (hX10.blk (.inr rfl) HB8.out),fun hH=>?_⟩
       simp only[p1,p2,p3,p4,p5]
       refine kT 14 (some 82) (.int .i64 (liveS r.2).length) (h:=?_)
       simp only[p1,p2,p3,p4,p5]
       refine kB 16 (some 84) (vs:=[(0,.int .i64 x.o.kind),(1,.int .i64 r.1.1),(2,.int .i64 r.2.now),(3,.int .i64 (liveS r.2).length),(4,.agg (u8s r.1.2).toArray)]) HBR.out (h:=?_)
       simp only[p1,p2,p3,p4,p5]
       obtain⟨g17,hg17⟩:∃ g,g=w10.heap.size:=⟨_,rfl⟩
       obtain⟨w11,hw11⟩:∃ W,W=w10.alloc (.cells (rowC R).toArray 31):=⟨_,rfl⟩
       have hb11:Below w10.heap.size w10 w11:=by rw[hw11];exact bel1 _ _
       have hrun17:(Instr.buildSlice 24 1 #[(0,.agg (rowC R).toArray)]).run Tryz.prog w10 = .ok (.slice (some ⟨g17,0,none⟩) 1 1) w11:=by rw[hw11,hg17];exact run_lit1M tRow (rowC R) HRL.out (by omega) w10
       have hS17:Sn w11 36 (.slice (some ⟨g17,0,none⟩) 1 1) 1 (rowC R):=by have:=Sn.newAt w10 (rowC R).toArray 31 36 1 g17 (by rw[List.size_toArray,HRL.out]) hg17.symm;rw[List.toList_toArray,← hw11] at this;exact this
       have hO11:=(HX10.blk (.inl (.inr rfl)) HO8.out).keep hb11
       have hM11:=(HX10.blk (.inl (.inl (.inl rfl))) HM8.out).keep hb11
       have hB11:=(HX10.blk (.inr rfl) HB8.out).keep hb11
       clear hg17 hw11
       refine kS 17 (some 85) (.slice (some ⟨g17,0,none⟩) 1 1) w11 (hrun:=by exact exec_build1 rfl (by kernel_rfl) hrun17) (hS:=rwX hO11 hM11 hB11) (h:=?_)
       simp only[p1,p2,p3,p4,p5]
       have hW11:=own_below (HX10.own HW8.out (fun b hb=>.inl (.inl (.inr (.inr hb))))) hb11
       obtain⟨v2,w12,hrun18,ho18,hg18,hb18⟩:=run_append_sn (ty:=24) tRow hW11 hS17 (rowE_one R) (by unfold maxLen;omega) (by omega) (Nat.le_trans HXN.lo (Nat.le_trans HX8.size (Nat.le_trans HX10.size hb11.size)))
       have hH12:=rwX (grown_blk hg18 hW11 hO11 (by decide)) (grown_blk hg18 hW11 hM11 (by decide)) (grown_blk hg18 hW11 hB11 (by decide))
       refine kS 18 (some 86) v2 w12 (hrun:=by exact exec_app rfl (by kernel_rfl) (by kernel_rfl) hrun18) (hS:=hH12) (h:=?_)
       simp only[p1,p2,p3,p4,p5]
       refine kT 19 (some 12) (v2) (h:=?_)
       simp only[p1,p2,p3,p4,p5]
       refine kE (h:=?_)
       -- end of region 17
       have HFI:Hid (RLX V c w0 w12 gv g9 gm gd N (j+1) (opsOf l) v2):=Lib.hid (by
        have hv11:=HV10.keep hb11
        have hlo:=HXN.lo
        refine⟨?_,?_,grown_blk hg18 hW11 hM11 (by decide),grown_blk hg18 hW11 ((HX10.blk (.inl (.inl (.inr (.inl rfl)))) HD8.out).keep hb11) (by decide)⟩
        ·rw[HSN.out,HAE.out.1]
         refine hv11.grown hg18 (fun b hb=>⟨.inl (.inl (.inr (.inr hb))),(hW11.lt b hb).1⟩) (fun b hb=>?_)
         rcases hb with rfl|rfl|hb
         ·exact .inl (.inl (.inl (.inl rfl)))
         ·exact .inl (.inl (.inl (.inr (.inl rfl))))
         ·rcases hb18 with h1|h1
          ·rw[h1] at hb
           exact .inl (.inl (.inl (.inr (.inr hb))))
          ·have h2:=(ho18.lt b hb).2
           rw[h1] at hb
           have h3:w11.heap.size=b:=Option.some.inj hb
           exact .inr ⟨by omega,h2⟩
        ·rw[HRN.out,List.flatMap_append,HAE.out.2,← HRE.out]
         have h4:[R].flatMap rowC=rowC R:=by simp
         rw[h4]
         exact ho18)
       clear hH
       go_wp2_with fail
       exact⟨⟨j+1,_,rfl,by omega,by go_num,HFI⟩,by simp[intOf];omega⟩
     ·obtain rfl:j=k:=by omega
      have HFI:Hid ((opsOf l).take j=opsOf l):=Lib.hid (List.take_of_length_le (by rw[opsOf_length,HN.out];exact Nat.le_refl _))
      go_wp2_with fail
      go_ret3
      have hX:=HX.out
      have hO:=hX.own
      rw[HFI.out] at hO
      unfold RunQ
      rw[HR.out]
      have hbf:=bstep HBW.out hX.ve.bel
      refine⟨_,_,rfl,?_,hbf⟩
      show wr.ownsRow w.heap.size _ 36 _ (rowsL V c.skew ⟨newD N,0,none⟩ (opsOf l)).length _
      rw[rowsL_length,opsOf_length,← HN.out]
      exact own_base hO HBW.size
end Go.Proofs.YtiaigidbcljblaaGreatDoor
