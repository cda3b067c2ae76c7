import Derived.Test.YtombncedfleljaaGreatMC28
set_option linter.unusedSimpArgs false
set_option maxRecDepth 100000
set_option maxHeartbeats 40000000
namespace Go.Proofs.YtombncedfleljaaGreat
open Go.RowKit
attribute [local irreducible] wpQuiet wpAnyH
def dD(d:DiskD)(f h:Nat):SSt:=bT (none,[]) ((d.sec.drop f).take h)
abbrev FSt:=Option (List aW)×LogD
def fA(k:Nat)(S:SSt)(p:FSt):FSt:=match S.1 with
 | none=>p
 | some g=>if p.1.isSome && decide (g≤p.2.gen) then p else (some S.2,{ p.2 with side:=k,gen:=g,cnt:=S.2.length })
def fAt(d:DiskD)(h:Nat)(L:LogD):Nat→FSt
 | 0=>(none,L)
 | k+1=>fA k (dD d (aY h k) h) (fAt d h L k)
theorem eW{w:World}{g:Nat}{t:TypeId}{old:Array Value}{new:List Value}(hB:Blk w g t old)(hl:old.size=new.length):
  Blk (w.setCells g 0 new) g t new.toArray∧Off g w (w.setCells g 0 new)∧(w.setCells g 0 new).heap.size=w.heap.size:=by
 have h:=eL (t:=t) [] old.toList [] new (by simpa using hB) (by simpa using hl);simpa using h
theorem nL:∀ w,(binOp .neq 42 .nilIface .nilIface).run Tryz.prog w = .ok (.bool false) w:=fun w=>by kernel_rfl
theorem jE(st:SSt)(A:Option Addr)(n cap:Nat):∀ u∈(stC st (.slice A n cap)).toList,u.oneCell'=true:=fun u hu=>by
 simp only[stC,List.mem_cons,List.not_mem_nil,or_false] at hu;rcases hu with rfl|rfl|rfl <;> rfl
structure FR(w wr:World)(m:DiskM)(d:DiskD)(gl h:Nat)(p:FSt)(v:Value):Prop where
 dk:DK wr m d
 blk:Blk wr gl 109 (cH m.g h p.2)
 own:wr.ownsRow w.heap.size 35 33 v (p.1.getD []).length ((p.1.getD []).flatMap aC)
 ok:∀ q∈p.1.getD [],EntOk q
 fo:Fo [gl] w wr
theorem FR.keep{w wr wx:World}{m:DiskM}{d:DiskD}{gl h:Nat}{p:FSt}{v:Value}(k:FR w wr m d gl h p v)(hb:Below wr.heap.size wr wx):FR w wx m d gl h p v:=
 ⟨k.dk.keep hb,k.blk.keep hb,aX k.own hb,k.ok,k.fo.trans_same (Fo.of_below hb)⟩
theorem FR.put{w wr wx wy:World}{m:DiskM}{d:DiskD}{gl h:Nat}{p:FSt}{v vE:Value}(k:FR w wr m d gl h p v)(hb:Below wr.heap.size wr wx)(es:List aW)(L:LogD)(ha:Apart m gl)(hg:gl<w.heap.size)
  (ho:wx.ownsRow w.heap.size 35 33 vE es.length (es.flatMap aC)) (hok:∀ q∈es,EntOk q) (hy:∀ j,j≠gl→wy.heap[j]? = wx.heap[j]?) (hyb:Blk wy gl 109 (cH m.g h L)) (hys:wy.heap.size=wx.heap.size) (hyo:wy.os=wx.os∧wy.tape=wx.tape∧wy.output=wx.output):
  FR w wy m d gl h (some es,L) vE:=
 ⟨(k.dk.keep hb).offK hy (by omega) ha,hyb,bU ho (fun b e=>hy b (by have:=(ho.lt b e).1;omega)),hok,
  ⟨hyo.1.trans (hb.os.trans k.fo.os),hyo.2.1.trans (hb.tape.trans k.fo.tape),hyo.2.2.trans (hb.output.trans k.fo.output),by rw[hys];exact Nat.le_trans k.fo.size hb.size,fun j hj hn=>by
   have hne:j≠gl:=fun e=>hn (by simp[e])
   rw[hy j hne,hb.block j (by have:=k.fo.size;omega)]
   exact k.fo.block j hj hn⟩⟩
structure FX(w wx:World)(m:DiskM)(d:DiskD)(gl h:Nat)(p:FSt)(v:Value)(SS:SSt)(gS:Nat)(vE:Value):Prop where
 fr:FR w wx m d gl h p v
 st:Blk wx gS 164 (stC SS vE)
 own:wx.ownsRow w.heap.size 35 33 vE SS.2.length (SS.2.flatMap aC)
 ok:∀ q∈SS.2,EntOk q
theorem FR.cut{w wS w5:World}{m:DiskM}{d:DiskD}{gl h:Nat}{p:FSt}{v:Value}(k:FR w wS m d gl h p v){SS:SSt}{gS:Nat}{vE:Value}(hBS:Blk w5 gS 164 stZ)
  (HST:Blk (w5.setCells gS 0 (stC SS vE).toList) gS 164 (stC SS vE).toList.toArray∧Off gS w5 (w5.setCells gS 0 (stC SS vE).toList)∧(w5.setCells gS 0 (stC SS vE).toList).heap.size=w5.heap.size)
  (hoS:w5.ownsRow wS.heap.size 35 33 vE SS.2.length (SS.2.flatMap aC)) (hbS:Below wS.heap.size wS w5) (hgS:wS.heap.size≤gS) (hnS:∀ b,vE.ownBlock=some b→b≠gS) (hok:∀ q∈SS.2,EntOk q):
  FX w (w5.setCells gS 0 (stC SS vE).toList) m d gl h p v SS gS vE:=
 have hlt:=hBS.lt
 ⟨k.keep (hbS.trans ⟨HST.2.1.os,HST.2.1.tape,HST.2.1.output,Nat.le_of_eq HST.2.2.symm,fun j hj=>HST.2.1.block j (by have:=hbS.size;omega) (by omega)⟩),HST.1,
  dI (bU hoS (fun b e=>HST.2.1.block b (hoS.lt b e).2 (hnS b e))) k.fo.size,hok⟩
theorem eP{k:Nat}{S:SSt}{p:FSt}(h:S.1=none):fA k S p=p:=by unfold fA;rw[h]
theorem fZ{k:Nat}{S:SSt}{p:FSt}{g:Nat}(h:S.1=some g)(hp:p.1=none∨p.2.gen<g):fA k S p=(some S.2,{ p.2 with side:=k,gen:=g,cnt:=S.2.length }):=by
 unfold fA;rw[h];rcases hp with hp|hp
 ·simp[hp]
 ·have:¬g≤p.2.gen:=by omega
  simp[this]
theorem uL{k:Nat}{S:SSt}{p:FSt}{g:Nat}(h:S.1=some g){es:List aW}(hp:p.1=some es)(hg:g≤p.2.gen):fA k S p=p:=by
 unfold fA;rw[h];simp[hp,hg]
theorem iB:∀(L:List (List Int)) (st:SSt),(bT st L).2.length≤st.2.length+L.length
 | [],st=>by simp[bT]
 | s :: L,st=>by
  rw[bT];cases hq:eM st s with
  | none=>simp only;omega
  | some st'=>
   have:=iB L st';have h2:=(EA hq).1;simp only[List.length_cons];omega
theorem AV{w:World}{gl g h:Nat}{L:LogD}(hB:Blk w gl 109 (cH g h L))(s gn c:Nat):
  Blk (((w.setCell ⟨gl,5,none⟩ (.int .i64 s)).setCell ⟨gl,7,none⟩ (.int .u32 gn)).setCell ⟨gl,8,none⟩ (.int .i64 c)) gl 109 (cH g h { L with side:=s,gen:=gn,cnt:=c }):=by
 have h1:=((hB.set_ 5 (.int .i64 s)).set_ 7 (.int .u32 gn)).set_ 8 (.int .i64 c);exact h1
theorem GL(w:World)(m:DiskM)(d:DiskD)(gl h:Nat)(L:LogD)(hk:DK w m d)(hb:Blk w gl 109 (cH m.g h L))(ha:Apart m gl)(hd:d.down=false)(ho:d.opn=[])(hh:h+h≤d.sec.length):
  Calls Tryz.prog 67 #[.pointer (some ⟨gl,0,none⟩)] w fun e w'=>∃ v,e = .returned (.tuple #[v,.bool (fAt d h L 2).1.isSome,.nilIface])∧FR w w' m d gl h (fAt d h L 2) v:=by
 have hlen4:=hk.ok.few;have HAP:=jz ha;have hgl:=hb.lt;have HFR0:Hid (FR w w m d gl h (fAt d h L 0) (.slice none 0 0)):=jz ⟨hk,hb,World.ownsRow_nil _ _ _ _,fun q hq=>by simp[fAt] at hq,Fo.refl⟩;have HSC:Hid (∀ W f,DK W m d→f≤h→Calls Tryz.prog 92 #[.pointer (some ⟨m.g,0,none⟩),.agg #[.int .i64 (f:Nat),.int .i64 h]] W fun e w'=>Below W.heap.size W w'∧∃ v,e = .returned (.tuple #[.agg (stC (dD d f h) v),.nilIface])∧w'.ownsRow W.heap.size 35 33 v (dD d f h).2.length ((dD d f h).2.flatMap aC)∧∀ q∈(dD d f h).2,EntOk q):=jz (fun W f hkW hf=>by
  have h1:=EB (f:Nat) h W m d hkW ⟨by omega,by omega⟩ (by omega)
  rw[rK hd ho h (f:Nat) (by omega) (by simp;omega),mL,Int.toNat_natCast] at h1
  exact h1)
 have HSL:Hid (∀ f,(dD d f h).2.length≤h):=jz (fun f=>by
  have:=iB ((d.sec.drop f).take h) (none,[])
  rw[List.length_take] at this
  unfold dD
  simp at this
  omega)
 have HFA:Hid (∀ k,fAt d h L (k+1)=fA k (dD d (aY h k) h) (fAt d h L k)):=jz (fun k=>rfl);have HF0:Hid ((fAt d h L 0).1=none):=jz rfl;have hst:Tryz.prog.built 164 []=some stZ:=KT;have hh1:(h:Int)≤4096:=by omega
 clear hk hb hd ho ha;obtain⟨g9,hg9⟩:=je m.g;have HG9:Hid (m.g=g9):=jz hg9.symm;have HB0:Hid (Blk w gl 109 (cH g9 h L)):=jz (by rw[hg9];exact HFR0.blk);have HR0:Hid (w.rangeAt gl 1 [.int .i64 0,.int .i64 h,.int .i64 h,.int .i64 h]):=jz (fun j u hj=>by
  rw[HB0.cell]
  match j with
  | 0=>simpa [cH] using hj
  | 1=>simpa [cH] using hj
  | 2=>simpa [cH] using hj
  | 3=>simpa [cH] using hj
  | j+4=>simp at hj)
 rw[← hg9] at HSC;clear hg9;go_enter Tryz.func67,Tryz.ntmps67
 go_upto_region 3 with fail
 go_upto_region 4 with (refine ld 107 _ rfl rfl rfl HR0.out Tryz.underlying107 rfl (by kernel_rfl) ?_)
 go_loopw [5,6,15] (fun f v i wr=>∃ k:Nat,k≤2∧i = .int .i64 (k:Int)∧f = .bool (fAt d h L k).1.isSome∧Hid (FR w wr m d gl h (fAt d h L k) v)) (fun _ _ i _=>2-(intOf i).toNat)
 case atStart=>exact⟨0,by omega,rfl,rfl,HFR0⟩
 case round=>
  obtain⟨k,hk,rfl,rfl,HR⟩:=hrel;have hgr:gl<wr.heap.size:=HR.blk.lt;have hk3:k=0∨k=1∨k=2:=by omega
  rcases hk3 with rfl|rfl|rfl
  ·obtain⟨p,hp⟩:=je (fAt d h L 0);obtain⟨SS,hSS⟩:=je (dD d 0 h);have HSS2:Hid (SS.2.length≤h):=jz (by rw[hSS];exact HSL.out _);have HFX:Hid (fAt d h L 1=fA 0 SS p):=jz (by rw[hSS,hp];exact HFA.out 0);have HCL:=jz (fun W hkW=>HSC.out W 0 hkW (by omega));rw[← hSS] at HCL;rw[← hp] at HR ⊢;have HF:Hid (p.1=none):=jz (by rw[hp];exact HF0.out);clear hSS hp;have HFI:Hid (p.1.isSome=false):=jz (by rw[HF.out];rfl);rw[HFI.out];have hix:∀ w,(Instr.index 107 (.agg #[.int .i64 0,.int .i64 h,.int .i64 h,.int .i64 h]) (.int .i64 0)).run Tryz.prog w = .ok (.agg #[.int .i64 0,.int .i64 h]) w:=fun w=>by kernel_rfl
   go_upto_region 6 with fail
   obtain⟨w2,hw2⟩:=je (wr.alloc (.cells #[.int .i64 0,.int .i64 h] 106));have hB2:Blk w2 wr.heap.size 106 #[.int .i64 0,.int .i64 h]:=by rw[hw2];exact Blk.new _ _ _
   have hb2:Below wr.heap.size wr w2:=by rw[hw2];exact aN _ _
   rw[← hw2];clear hw2;obtain⟨g8,hg8⟩:=je wr.heap.size;rw[← hg8] at hB2 ⊢;have HB82:Hid (Blk w2 g8 106 #[.int .i64 0,.int .i64 h]):=jz hB2;have HR2:=jz (HR.keep hb2);clear hB2 hb2 hg8;go_cut [9,10] from 19 to 27 (fun x y wx=>∃ gS A2 c2,x = .pointer (some ⟨gS,0,none⟩)∧y = .nilIface∧Hid (FX w wx m d gl h p u6 SS gS (.slice A2 SS.2.length c2)))
   case first=>
    obtain⟨wS,hwS⟩:=je w2.drew;have HRS:=jz (HR2.keep (Below.refl _ _).drew);rw[← hwS] at HRS;have HB1:Hid (Blk wS gl 109 (cH g9 h p.2)):=jz (by rw[← HG9.out];exact HRS.blk);have HB8:Hid (Blk wS g8 106 #[.int .i64 0,.int .i64 h]):=jz (by rw[hwS];exact HB82.keep (Below.refl _ _).drew);refine kZ (n:=12) (fun W=>Blk W gl 109 (cH g9 h p.2)∧Blk W g8 106 #[.int .i64 0,.int .i64 h]) (by rw[← hwS];exact⟨HB1.out,HB8.out⟩) (h:=fun hH=>?_);rw[← hwS] at hH ⊢;clear hwS;refine kM 0 (some 20) (.pointer (some ⟨gl,0,none⟩)) (h:=?_);simp only[jq];refine kT 1 (some 21) (.pointer (some ⟨gl,0,none⟩)) (h:=?_);simp only[jq];refine kT 2 (some 22) (.pointer (some ⟨gl,0,none⟩)) (h:=?_);simp only[jq];refine kC 3 (some 23) (v:=.pointer (some ⟨g9,0,none⟩)) (fun _ hX=>(hX.1.cell 0).trans rfl) (h:=?_);simp only[jq];refine kL 4 (some 24) (cs:=[.int .i64 0,.int .i64 h]) (fun _ hX=>hX.2.range) (rfl) (h:=?_);simp only[jq];refine kCA 5 9 (some 25) (some 9) (zs:=stZ) rG ((HCL.out wS HRS.dk).mono ?_) ⟨hH.1.alloc _,hH.2.alloc _⟩ ?_
    ·rintro e w6 ⟨hb6,vE,rfl,ho6,hokS⟩;obtain⟨A2,c2,rfl,_⟩:=Sn.own ho6;refine⟨_,rfl,⟨hH.1.keep hb6,hH.2.keep hb6⟩,fun hH6=>?_⟩;simp only[jq];refine kM 6 (some 19) (.tuple #[.agg (stC SS (.slice A2 SS.2.length c2)),.nilIface]) (h:=?_);simp only[jq];refine kT 7 (some 26) (.agg (stC SS (.slice A2 SS.2.length c2))) (h:=?_);simp only[jq];refine kT 8 (some 27) (.nilIface) (h:=?_);simp only[jq];refine kA 9 (some 9) (zs:=stZ) rG ⟨hH6.1.alloc _,hH6.2.alloc _⟩ (h:=?_);simp only[jq];obtain⟨w5,hw5⟩:=je (w6.alloc (.cells stZ 164));obtain⟨gS,hgs⟩:=je w6.heap.size;have hBS:Blk w5 gS 164 stZ:=by rw[hw5,hgs];exact Blk.new _ _ _
     have hb65:Below w6.heap.size w6 w5:=by rw[hw5];exact aN _ _
     have hoS:=aX ho6 hb65;have hbS:Below wS.heap.size wS w5:=aB hb6 hb65;have hgS:wS.heap.size≤gS:=by rw[hgs];exact hb6.size
     have hnS:∀ b,(Value.slice A2 SS.2.length c2).ownBlock=some b→b≠gS:=fun b e=>by have:=(ho6.lt b e).2;omega
     have hH5:Blk w5 gl 109 (cH g9 h p.2)∧Blk w5 g8 106 #[.int .i64 0,.int .i64 h]:=⟨hH6.1.keep hb65,hH6.2.keep hb65⟩;rw[← hw5,← hgs];clear hw5 hgs;have HST:=eW (new:=(stC SS (.slice A2 SS.2.length c2)).toList) hBS (by rfl);have hS6:Blk (w5.setCells gS 0 (stC SS (.slice A2 SS.2.length c2)).toList) gl 109 (cH g9 h p.2)∧Blk (w5.setCells gS 0 (stC SS (.slice A2 SS.2.length c2)).toList) g8 106 #[.int .i64 0,.int .i64 h]:=⟨(HST.2.1.block _ hH5.1.lt (by have:=HRS.blk.lt;omega)).trans hH5.1,(HST.2.1.block _ hH5.2.lt (by have:=HB8.lt;omega)).trans hH5.2⟩;refine kR 10 none (off:=0) (n:=3) (cs:=(stC SS (.slice A2 SS.2.length c2)).toList) (cZ hBS (Nat.le_refl _)) rfl (jE _ _ _ _) hS6 (h:=?_);simp only[jq];refine kT 11 (some 10) (.nilIface) (h:=?_);simp only[jq];refine kE (h:=?_);go_wp2_with fail
     go_meet
     exact⟨gS,A2,c2,rfl,rfl,jz (HRS.cut hBS HST hoS hbS hgS hnS hokS)⟩
    ·simp only[jq];obtain⟨w4,hw4⟩:=je (wS.alloc (.cells stZ 164));obtain⟨gS,hgs⟩:=je wS.heap.size;have hB4:Blk w4 gS 164 stZ:=by rw[hw4,hgs];exact Blk.new _ _ _
     have hb4:Below wS.heap.size wS w4:=by rw[hw4];exact aN _ _
     have hs4:w4.heap.size=wS.heap.size+1:=by rw[hw4];simp
     rw[← hw4,← hgs];clear hw4;refine kF 5 (some 25) ((HCL.out w4 (HRS.dk.keep hb4)).mono ?_);rintro e w5 ⟨hb5,vE,rfl,ho5,hokS⟩;obtain⟨A2,c2,rfl,_⟩:=Sn.own ho5;refine⟨_,rfl,⟨(hH.1.keep hb4).keep hb5,(hH.2.keep hb4).keep hb5⟩,fun hH5=>?_⟩;simp only[jq];have hBS:=hB4.keep hb5;have hoS:=dI (base':=wS.heap.size) ho5 (by omega);have hbS:Below wS.heap.size wS w5:=aB hb4 hb5;have hgS:wS.heap.size≤gS:=by omega
     have hnS:∀ b,(Value.slice A2 SS.2.length c2).ownBlock=some b→b≠gS:=fun b e=>by have:=(ho5.lt b e).1;omega
     refine kM 6 (some 19) (.tuple #[.agg (stC SS (.slice A2 SS.2.length c2)),.nilIface]) (h:=?_);simp only[jq];refine kT 7 (some 26) (.agg (stC SS (.slice A2 SS.2.length c2))) (h:=?_);simp only[jq];refine kT 8 (some 27) (.nilIface) (h:=?_);simp only[jq];have HST:=eW (new:=(stC SS (.slice A2 SS.2.length c2)).toList) hBS (by rfl);have hS6:Blk (w5.setCells gS 0 (stC SS (.slice A2 SS.2.length c2)).toList) gl 109 (cH g9 h p.2)∧Blk (w5.setCells gS 0 (stC SS (.slice A2 SS.2.length c2)).toList) g8 106 #[.int .i64 0,.int .i64 h]:=⟨(HST.2.1.block _ hH5.1.lt (by have:=HRS.blk.lt;omega)).trans hH5.1,(HST.2.1.block _ hH5.2.lt (by have:=HB8.lt;omega)).trans hH5.2⟩;refine kR 10 none (off:=0) (n:=3) (cs:=(stC SS (.slice A2 SS.2.length c2)).toList) (cZ hBS (Nat.le_refl _)) rfl (jE _ _ _ _) hS6 (h:=?_);simp only[jq];refine kT 11 (some 10) (.nilIface) (h:=?_);simp only[jq];refine kE (h:=?_);go_wp2_with fail
     go_meet
     exact⟨gS,A2,c2,rfl,rfl,jz (HRS.cut hBS HST hoS hbS hgS hnS hokS)⟩
   case rest=>
   obtain⟨gS,A2,c2,rfl,rfl,HC⟩:=hcut;obtain⟨w6,hw6⟩:=je wc;rw[← hw6] at HC ⊢;clear hw6;have HBS:Hid (Blk w6 gS 164 (stC SS (.slice A2 SS.2.length c2))):=jz HC.st;have HOE:=jz HC.own;have HOK:=jz HC.ok;have HR6:=jz HC.fr;have hg6:gl<w6.heap.size:=HR6.blk.lt;have e0:=HBS.cell 0;have e1:=HBS.cell 1;have e2:=HBS.cell 2;have HB6:Hid (Blk w6 gl 109 (cH g9 h p.2)):=jz (by rw[← HG9.out];exact HR6.blk);have l7:w6.cell? ⟨gl,7,none⟩=some (.int .u32 p.2.gen):=(HB6.cell 7).trans rfl;have l5:w6.cell? ⟨gl,5,none⟩=some (.int .i64 p.2.side):=(HB6.cell 5).trans rfl;have l8:w6.cell? ⟨gl,8,none⟩=some (.int .i64 p.2.cnt):=(HB6.cell 8).trans rfl;have f5:=HB6.frozen 5;have f7:=HB6.frozen 7;have f8:=HB6.frozen 8;simp only[stC,List.getElem?_toArray,List.getElem?_cons_zero,List.getElem?_cons_succ] at e0 e1 e2;have hnn:=nL;have hSL:=HSS2.out;clear HC;cases hso:SS.1 with
   | none=>
    rw[hso] at e0 e1;have HSO:=jz hso;clear hso;simp only[Option.isSome_none] at e0;have HFN:=jz (HFX.trans (eP (k:=0) HSO.out));go_wp2_with fail
    go_quiet (fail)
    go_wp2_with fail
    refine⟨⟨1,by omega,rfl,by rw[HFN.out,HFI.out],?_⟩,by simp[intOf]⟩;rw[HFN.out];exact jz (HR6.keep (bR (Below.refl _ _) nq))
   | some gN=>
    rw[hso] at e0 e1;have HSO:Hid (SS.1=some gN):=jz hso;clear hso;simp only[Option.isSome_some,Option.getD_some] at e0 e1;have HFN:=jz (HFX.trans (fZ (k:=0) HSO.out (.inl HF.out)));go_wp2_with fail
    go_quiet (fail)
    go_wp2_with fail
    refine⟨⟨1,by omega,rfl,by rw[HFN.out];rfl,?_⟩,by simp[intOf]⟩;rw[HFN.out];have hb67:Below w6.heap.size w6 (w6.drewN nq):=bR (Below.refl _ _) nq;exact jz (HR6.put hb67 SS.2 _ HAP.out hgl (aX HOE.out hb67) HOK.out (fun j hj=>by rw[Below.heap_setCell _ ⟨gl,8,none⟩ _ j hj,Below.heap_setCell _ ⟨gl,7,none⟩ _ j hj,Below.heap_setCell _ ⟨gl,5,none⟩ _ j hj]) (by have:=AV (HR6.blk.keep hb67) 0 gN SS.2.length;exact this) (by simp) ⟨rfl,rfl,rfl⟩)
  ·obtain⟨p,hp⟩:=je (fAt d h L 1);obtain⟨SS,hSS⟩:=je (dD d h h);have HSS2:Hid (SS.2.length≤h):=jz (by rw[hSS];exact HSL.out _);have HFX:Hid (fAt d h L 2=fA 1 SS p):=jz (by rw[hSS,hp];exact HFA.out 1);have HCL:=jz (fun W hkW=>HSC.out W h hkW (by omega));rw[← hSS] at HCL;rw[← hp] at HR ⊢;clear hSS hp;cases hp1:p.1 with
   | none=>
    have HF:Hid (p.1=none):=jz hp1;have HFI:Hid (p.1.isSome=false):=jz (by rw[HF.out];rfl);clear hp1;simp only[Option.isSome_none];have hix:∀ w,(Instr.index 107 (.agg #[.int .i64 0,.int .i64 h,.int .i64 h,.int .i64 h]) (.int .i64 1)).run Tryz.prog w = .ok (.agg #[.int .i64 h,.int .i64 h]) w:=fun w=>by kernel_rfl
    go_upto_region 6 with fail
    obtain⟨w2,hw2⟩:=je (wr.alloc (.cells #[.int .i64 h,.int .i64 h] 106));have hB2:Blk w2 wr.heap.size 106 #[.int .i64 h,.int .i64 h]:=by rw[hw2];exact Blk.new _ _ _
    have hb2:Below wr.heap.size wr w2:=by rw[hw2];exact aN _ _
    rw[← hw2];clear hw2;obtain⟨g8,hg8⟩:=je wr.heap.size;rw[← hg8] at hB2 ⊢;have HB82:Hid (Blk w2 g8 106 #[.int .i64 h,.int .i64 h]):=jz hB2;have HR2:=jz (HR.keep hb2);clear hB2 hb2 hg8;go_cut [9,10] from 19 to 27 (fun x y wx=>∃ gS A2 c2,x = .pointer (some ⟨gS,0,none⟩)∧y = .nilIface∧Hid (FX w wx m d gl h p u6 SS gS (.slice A2 SS.2.length c2)))
    case first=>
     obtain⟨wS,hwS⟩:=je w2.drew;have HRS:=jz (HR2.keep (Below.refl _ _).drew);rw[← hwS] at HRS;have HB1:Hid (Blk wS gl 109 (cH g9 h p.2)):=jz (by rw[← HG9.out];exact HRS.blk);have HB8:Hid (Blk wS g8 106 #[.int .i64 h,.int .i64 h]):=jz (by rw[hwS];exact HB82.keep (Below.refl _ _).drew);refine kZ (n:=12) (fun W=>Blk W gl 109 (cH g9 h p.2)∧Blk W g8 106 #[.int .i64 h,.int .i64 h]) (by rw[← hwS];exact⟨HB1.out,HB8.out⟩) (h:=fun hH=>?_);rw[← hwS] at hH ⊢;clear hwS;refine kM 0 (some 20) (.pointer (some ⟨gl,0,none⟩)) (h:=?_);simp only[jq];refine kT 1 (some 21) (.pointer (some ⟨gl,0,none⟩)) (h:=?_);simp only[jq];refine kT 2 (some 22) (.pointer (some ⟨gl,0,none⟩)) (h:=?_);simp only[jq];refine kC 3 (some 23) (v:=.pointer (some ⟨g9,0,none⟩)) (fun _ hX=>(hX.1.cell 0).trans rfl) (h:=?_);simp only[jq];refine kL 4 (some 24) (cs:=[.int .i64 h,.int .i64 h]) (fun _ hX=>hX.2.range) (rfl) (h:=?_);simp only[jq];refine kCA 5 9 (some 25) (some 9) (zs:=stZ) rG ((HCL.out wS HRS.dk).mono ?_) ⟨hH.1.alloc _,hH.2.alloc _⟩ ?_
     ·rintro e w6 ⟨hb6,vE,rfl,ho6,hokS⟩;obtain⟨A2,c2,rfl,_⟩:=Sn.own ho6;refine⟨_,rfl,⟨hH.1.keep hb6,hH.2.keep hb6⟩,fun hH6=>?_⟩;simp only[jq];refine kM 6 (some 19) (.tuple #[.agg (stC SS (.slice A2 SS.2.length c2)),.nilIface]) (h:=?_);simp only[jq];refine kT 7 (some 26) (.agg (stC SS (.slice A2 SS.2.length c2))) (h:=?_);simp only[jq];refine kT 8 (some 27) (.nilIface) (h:=?_);simp only[jq];refine kA 9 (some 9) (zs:=stZ) rG ⟨hH6.1.alloc _,hH6.2.alloc _⟩ (h:=?_);simp only[jq];obtain⟨w5,hw5⟩:=je (w6.alloc (.cells stZ 164));obtain⟨gS,hgs⟩:=je w6.heap.size;have hBS:Blk w5 gS 164 stZ:=by rw[hw5,hgs];exact Blk.new _ _ _
      have hb65:Below w6.heap.size w6 w5:=by rw[hw5];exact aN _ _
      have hoS:=aX ho6 hb65;have hbS:Below wS.heap.size wS w5:=aB hb6 hb65;have hgS:wS.heap.size≤gS:=by rw[hgs];exact hb6.size
      have hnS:∀ b,(Value.slice A2 SS.2.length c2).ownBlock=some b→b≠gS:=fun b e=>by have:=(ho6.lt b e).2;omega
      have hH5:Blk w5 gl 109 (cH g9 h p.2)∧Blk w5 g8 106 #[.int .i64 h,.int .i64 h]:=⟨hH6.1.keep hb65,hH6.2.keep hb65⟩;rw[← hw5,← hgs];clear hw5 hgs;have HST:=eW (new:=(stC SS (.slice A2 SS.2.length c2)).toList) hBS (by rfl);have hS6:Blk (w5.setCells gS 0 (stC SS (.slice A2 SS.2.length c2)).toList) gl 109 (cH g9 h p.2)∧Blk (w5.setCells gS 0 (stC SS (.slice A2 SS.2.length c2)).toList) g8 106 #[.int .i64 h,.int .i64 h]:=⟨(HST.2.1.block _ hH5.1.lt (by have:=HRS.blk.lt;omega)).trans hH5.1,(HST.2.1.block _ hH5.2.lt (by have:=HB8.lt;omega)).trans hH5.2⟩;refine kR 10 none (off:=0) (n:=3) (cs:=(stC SS (.slice A2 SS.2.length c2)).toList) (cZ hBS (Nat.le_refl _)) rfl (jE _ _ _ _) hS6 (h:=?_);simp only[jq];refine kT 11 (some 10) (.nilIface) (h:=?_);simp only[jq];refine kE (h:=?_);go_wp2_with fail
      go_meet
      exact⟨gS,A2,c2,rfl,rfl,jz (HRS.cut hBS HST hoS hbS hgS hnS hokS)⟩
     ·simp only[jq];obtain⟨w4,hw4⟩:=je (wS.alloc (.cells stZ 164));obtain⟨gS,hgs⟩:=je wS.heap.size;have hB4:Blk w4 gS 164 stZ:=by rw[hw4,hgs];exact Blk.new _ _ _
      have hb4:Below wS.heap.size wS w4:=by rw[hw4];exact aN _ _
      have hs4:w4.heap.size=wS.heap.size+1:=by rw[hw4];simp
      rw[← hw4,← hgs];clear hw4;refine kF 5 (some 25) ((HCL.out w4 (HRS.dk.keep hb4)).mono ?_);rintro e w5 ⟨hb5,vE,rfl,ho5,hokS⟩;obtain⟨A2,c2,rfl,_⟩:=Sn.own ho5;refine⟨_,rfl,⟨(hH.1.keep hb4).keep hb5,(hH.2.keep hb4).keep hb5⟩,fun hH5=>?_⟩;simp only[jq];have hBS:=hB4.keep hb5;have hoS:=dI (base':=wS.heap.size) ho5 (by omega);have hbS:Below wS.heap.size wS w5:=aB hb4 hb5;have hgS:wS.heap.size≤gS:=by omega
      have hnS:∀ b,(Value.slice A2 SS.2.length c2).ownBlock=some b→b≠gS:=fun b e=>by have:=(ho5.lt b e).1;omega
      refine kM 6 (some 19) (.tuple #[.agg (stC SS (.slice A2 SS.2.length c2)),.nilIface]) (h:=?_);simp only[jq];refine kT 7 (some 26) (.agg (stC SS (.slice A2 SS.2.length c2))) (h:=?_);simp only[jq];refine kT 8 (some 27) (.nilIface) (h:=?_);simp only[jq];have HST:=eW (new:=(stC SS (.slice A2 SS.2.length c2)).toList) hBS (by rfl);have hS6:Blk (w5.setCells gS 0 (stC SS (.slice A2 SS.2.length c2)).toList) gl 109 (cH g9 h p.2)∧Blk (w5.setCells gS 0 (stC SS (.slice A2 SS.2.length c2)).toList) g8 106 #[.int .i64 h,.int .i64 h]:=⟨(HST.2.1.block _ hH5.1.lt (by have:=HRS.blk.lt;omega)).trans hH5.1,(HST.2.1.block _ hH5.2.lt (by have:=HB8.lt;omega)).trans hH5.2⟩;refine kR 10 none (off:=0) (n:=3) (cs:=(stC SS (.slice A2 SS.2.length c2)).toList) (cZ hBS (Nat.le_refl _)) rfl (jE _ _ _ _) hS6 (h:=?_);simp only[jq];refine kT 11 (some 10) (.nilIface) (h:=?_);simp only[jq];refine kE (h:=?_);go_wp2_with fail
      go_meet
      exact⟨gS,A2,c2,rfl,rfl,jz (HRS.cut hBS HST hoS hbS hgS hnS hokS)⟩
    case rest=>
    obtain⟨gS,A2,c2,rfl,rfl,HC⟩:=hcut;obtain⟨w6,hw6⟩:=je wc;rw[← hw6] at HC ⊢;clear hw6;have HBS:Hid (Blk w6 gS 164 (stC SS (.slice A2 SS.2.length c2))):=jz HC.st;have HOE:=jz HC.own;have HOK:=jz HC.ok;have HR6:=jz HC.fr;have hg6:gl<w6.heap.size:=HR6.blk.lt;have e0:=HBS.cell 0;have e1:=HBS.cell 1;have e2:=HBS.cell 2;have HB6:Hid (Blk w6 gl 109 (cH g9 h p.2)):=jz (by rw[← HG9.out];exact HR6.blk);have l7:w6.cell? ⟨gl,7,none⟩=some (.int .u32 p.2.gen):=(HB6.cell 7).trans rfl;have l5:w6.cell? ⟨gl,5,none⟩=some (.int .i64 p.2.side):=(HB6.cell 5).trans rfl;have l8:w6.cell? ⟨gl,8,none⟩=some (.int .i64 p.2.cnt):=(HB6.cell 8).trans rfl;have f5:=HB6.frozen 5;have f7:=HB6.frozen 7;have f8:=HB6.frozen 8;simp only[stC,List.getElem?_toArray,List.getElem?_cons_zero,List.getElem?_cons_succ] at e0 e1 e2;have hnn:=nL;have hSL:=HSS2.out;clear HC;cases hso:SS.1 with
    | none=>
     rw[hso] at e0 e1;have HSO:=jz hso;clear hso;simp only[Option.isSome_none] at e0;have HFN:=jz (HFX.trans (eP (k:=1) HSO.out));go_wp2_with fail
     go_quiet (fail)
     go_wp2_with fail
     refine⟨⟨2,by omega,rfl,by rw[HFN.out,HFI.out],?_⟩,by simp[intOf]⟩;rw[HFN.out];exact jz (HR6.keep (bR (Below.refl _ _) nq))
    | some gN=>
     rw[hso] at e0 e1;have HSO:Hid (SS.1=some gN):=jz hso;clear hso;simp only[Option.isSome_some,Option.getD_some] at e0 e1;have HFN:=jz (HFX.trans (fZ (k:=1) HSO.out (.inl HF.out)));go_wp2_with fail
     go_quiet (fail)
     go_wp2_with fail
     refine⟨⟨2,by omega,rfl,by rw[HFN.out];rfl,?_⟩,by simp[intOf]⟩;rw[HFN.out];have hb67:Below w6.heap.size w6 (w6.drewN nq):=bR (Below.refl _ _) nq;exact jz (HR6.put hb67 SS.2 _ HAP.out hgl (aX HOE.out hb67) HOK.out (fun j hj=>by rw[Below.heap_setCell _ ⟨gl,8,none⟩ _ j hj,Below.heap_setCell _ ⟨gl,7,none⟩ _ j hj,Below.heap_setCell _ ⟨gl,5,none⟩ _ j hj]) (by have:=AV (HR6.blk.keep hb67) 1 gN SS.2.length;exact this) (by simp) ⟨rfl,rfl,rfl⟩)
   | some es=>
    have HF:Hid (p.1=some es):=jz hp1;have HFI:Hid (p.1.isSome=true):=jz (by rw[HF.out];rfl);clear hp1;simp only[Option.isSome_some];have hix:∀ w,(Instr.index 107 (.agg #[.int .i64 0,.int .i64 h,.int .i64 h,.int .i64 h]) (.int .i64 1)).run Tryz.prog w = .ok (.agg #[.int .i64 h,.int .i64 h]) w:=fun w=>by kernel_rfl
    go_upto_region 6 with fail
    obtain⟨w2,hw2⟩:=je (wr.alloc (.cells #[.int .i64 h,.int .i64 h] 106));have hB2:Blk w2 wr.heap.size 106 #[.int .i64 h,.int .i64 h]:=by rw[hw2];exact Blk.new _ _ _
    have hb2:Below wr.heap.size wr w2:=by rw[hw2];exact aN _ _
    rw[← hw2];clear hw2;obtain⟨g8,hg8⟩:=je wr.heap.size;rw[← hg8] at hB2 ⊢;have HB82:Hid (Blk w2 g8 106 #[.int .i64 h,.int .i64 h]):=jz hB2;have HR2:=jz (HR.keep hb2);clear hB2 hb2 hg8;go_cut [9,10] from 19 to 27 (fun x y wx=>∃ gS A2 c2,x = .pointer (some ⟨gS,0,none⟩)∧y = .nilIface∧Hid (FX w wx m d gl h p u6 SS gS (.slice A2 SS.2.length c2)))
    case first=>
     obtain⟨wS,hwS⟩:=je w2.drew;have HRS:=jz (HR2.keep (Below.refl _ _).drew);rw[← hwS] at HRS;have HB1:Hid (Blk wS gl 109 (cH g9 h p.2)):=jz (by rw[← HG9.out];exact HRS.blk);have HB8:Hid (Blk wS g8 106 #[.int .i64 h,.int .i64 h]):=jz (by rw[hwS];exact HB82.keep (Below.refl _ _).drew);refine kZ (n:=12) (fun W=>Blk W gl 109 (cH g9 h p.2)∧Blk W g8 106 #[.int .i64 h,.int .i64 h]) (by rw[← hwS];exact⟨HB1.out,HB8.out⟩) (h:=fun hH=>?_);rw[← hwS] at hH ⊢;clear hwS;refine kM 0 (some 20) (.pointer (some ⟨gl,0,none⟩)) (h:=?_);simp only[jq];refine kT 1 (some 21) (.pointer (some ⟨gl,0,none⟩)) (h:=?_);simp only[jq];refine kT 2 (some 22) (.pointer (some ⟨gl,0,none⟩)) (h:=?_);simp only[jq];refine kC 3 (some 23) (v:=.pointer (some ⟨g9,0,none⟩)) (fun _ hX=>(hX.1.cell 0).trans rfl) (h:=?_);simp only[jq];refine kL 4 (some 24) (cs:=[.int .i64 h,.int .i64 h]) (fun _ hX=>hX.2.range) (rfl) (h:=?_);simp only[jq];refine kCA 5 9 (some 25) (some 9) (zs:=stZ) rG ((HCL.out wS HRS.dk).mono ?_) ⟨hH.1.alloc _,hH.2.alloc _⟩ ?_
     ·rintro e w6 ⟨hb6,vE,rfl,ho6,hokS⟩;obtain⟨A2,c2,rfl,_⟩:=Sn.own ho6;refine⟨_,rfl,⟨hH.1.keep hb6,hH.2.keep hb6⟩,fun hH6=>?_⟩;simp only[jq];refine kM 6 (some 19) (.tuple #[.agg (stC SS (.slice A2 SS.2.length c2)),.nilIface]) (h:=?_);simp only[jq];refine kT 7 (some 26) (.agg (stC SS (.slice A2 SS.2.length c2))) (h:=?_);simp only[jq];refine kT 8 (some 27) (.nilIface) (h:=?_);simp only[jq];refine kA 9 (some 9) (zs:=stZ) rG ⟨hH6.1.alloc _,hH6.2.alloc _⟩ (h:=?_);simp only[jq];obtain⟨w5,hw5⟩:=je (w6.alloc (.cells stZ 164));obtain⟨gS,hgs⟩:=je w6.heap.size;have hBS:Blk w5 gS 164 stZ:=by rw[hw5,hgs];exact Blk.new _ _ _
      have hb65:Below w6.heap.size w6 w5:=by rw[hw5];exact aN _ _
      have hoS:=aX ho6 hb65;have hbS:Below wS.heap.size wS w5:=aB hb6 hb65;have hgS:wS.heap.size≤gS:=by rw[hgs];exact hb6.size
      have hnS:∀ b,(Value.slice A2 SS.2.length c2).ownBlock=some b→b≠gS:=fun b e=>by have:=(ho6.lt b e).2;omega
      have hH5:Blk w5 gl 109 (cH g9 h p.2)∧Blk w5 g8 106 #[.int .i64 h,.int .i64 h]:=⟨hH6.1.keep hb65,hH6.2.keep hb65⟩;rw[← hw5,← hgs];clear hw5 hgs;have HST:=eW (new:=(stC SS (.slice A2 SS.2.length c2)).toList) hBS (by rfl);have hS6:Blk (w5.setCells gS 0 (stC SS (.slice A2 SS.2.length c2)).toList) gl 109 (cH g9 h p.2)∧Blk (w5.setCells gS 0 (stC SS (.slice A2 SS.2.length c2)).toList) g8 106 #[.int .i64 h,.int .i64 h]:=⟨(HST.2.1.block _ hH5.1.lt (by have:=HRS.blk.lt;omega)).trans hH5.1,(HST.2.1.block _ hH5.2.lt (by have:=HB8.lt;omega)).trans hH5.2⟩;refine kR 10 none (off:=0) (n:=3) (cs:=(stC SS (.slice A2 SS.2.length c2)).toList) (cZ hBS (Nat.le_refl _)) rfl (jE _ _ _ _) hS6 (h:=?_);simp only[jq];refine kT 11 (some 10) (.nilIface) (h:=?_);simp only[jq];refine kE (h:=?_);go_wp2_with fail
      go_meet
      exact⟨gS,A2,c2,rfl,rfl,jz (HRS.cut hBS HST hoS hbS hgS hnS hokS)⟩
     ·simp only[jq];obtain⟨w4,hw4⟩:=je (wS.alloc (.cells stZ 164));obtain⟨gS,hgs⟩:=je wS.heap.size;have hB4:Blk w4 gS 164 stZ:=by rw[hw4,hgs];exact Blk.new _ _ _
      have hb4:Below wS.heap.size wS w4:=by rw[hw4];exact aN _ _
      have hs4:w4.heap.size=wS.heap.size+1:=by rw[hw4];simp
      rw[← hw4,← hgs];clear hw4;refine kF 5 (some 25) ((HCL.out w4 (HRS.dk.keep hb4)).mono ?_);rintro e w5 ⟨hb5,vE,rfl,ho5,hokS⟩;obtain⟨A2,c2,rfl,_⟩:=Sn.own ho5;refine⟨_,rfl,⟨(hH.1.keep hb4).keep hb5,(hH.2.keep hb4).keep hb5⟩,fun hH5=>?_⟩;simp only[jq];have hBS:=hB4.keep hb5;have hoS:=dI (base':=wS.heap.size) ho5 (by omega);have hbS:Below wS.heap.size wS w5:=aB hb4 hb5;have hgS:wS.heap.size≤gS:=by omega
      have hnS:∀ b,(Value.slice A2 SS.2.length c2).ownBlock=some b→b≠gS:=fun b e=>by have:=(ho5.lt b e).1;omega
      refine kM 6 (some 19) (.tuple #[.agg (stC SS (.slice A2 SS.2.length c2)),.nilIface]) (h:=?_);simp only[jq];refine kT 7 (some 26) (.agg (stC SS (.slice A2 SS.2.length c2))) (h:=?_);simp only[jq];refine kT 8 (some 27) (.nilIface) (h:=?_);simp only[jq];have HST:=eW (new:=(stC SS (.slice A2 SS.2.length c2)).toList) hBS (by rfl);have hS6:Blk (w5.setCells gS 0 (stC SS (.slice A2 SS.2.length c2)).toList) gl 109 (cH g9 h p.2)∧Blk (w5.setCells gS 0 (stC SS (.slice A2 SS.2.length c2)).toList) g8 106 #[.int .i64 h,.int .i64 h]:=⟨(HST.2.1.block _ hH5.1.lt (by have:=HRS.blk.lt;omega)).trans hH5.1,(HST.2.1.block _ hH5.2.lt (by have:=HB8.lt;omega)).trans hH5.2⟩;refine kR 10 none (off:=0) (n:=3) (cs:=(stC SS (.slice A2 SS.2.length c2)).toList) (cZ hBS (Nat.le_refl _)) rfl (jE _ _ _ _) hS6 (h:=?_);simp only[jq];refine kT 11 (some 10) (.nilIface) (h:=?_);simp only[jq];refine kE (h:=?_);go_wp2_with fail
      go_meet
      exact⟨gS,A2,c2,rfl,rfl,jz (HRS.cut hBS HST hoS hbS hgS hnS hokS)⟩
    case rest=>
    obtain⟨gS,A2,c2,rfl,rfl,HC⟩:=hcut;obtain⟨w6,hw6⟩:=je wc;rw[← hw6] at HC ⊢;clear hw6;have HBS:Hid (Blk w6 gS 164 (stC SS (.slice A2 SS.2.length c2))):=jz HC.st;have HOE:=jz HC.own;have HOK:=jz HC.ok;have HR6:=jz HC.fr;have hg6:gl<w6.heap.size:=HR6.blk.lt;have e0:=HBS.cell 0;have e1:=HBS.cell 1;have e2:=HBS.cell 2;have HB6:Hid (Blk w6 gl 109 (cH g9 h p.2)):=jz (by rw[← HG9.out];exact HR6.blk);have l7:w6.cell? ⟨gl,7,none⟩=some (.int .u32 p.2.gen):=(HB6.cell 7).trans rfl;have l5:w6.cell? ⟨gl,5,none⟩=some (.int .i64 p.2.side):=(HB6.cell 5).trans rfl;have l8:w6.cell? ⟨gl,8,none⟩=some (.int .i64 p.2.cnt):=(HB6.cell 8).trans rfl;have f5:=HB6.frozen 5;have f7:=HB6.frozen 7;have f8:=HB6.frozen 8;simp only[stC,List.getElem?_toArray,List.getElem?_cons_zero,List.getElem?_cons_succ] at e0 e1 e2;have hnn:=nL;have hSL:=HSS2.out;clear HC;cases hso:SS.1 with
    | none=>
     rw[hso] at e0 e1;have HSO:=jz hso;clear hso;simp only[Option.isSome_none] at e0;have HFN:=jz (HFX.trans (eP (k:=1) HSO.out));go_wp2_with fail
     go_quiet (fail)
     go_wp2_with fail
     refine⟨⟨2,by omega,rfl,by rw[HFN.out,HFI.out],?_⟩,by simp[intOf]⟩;rw[HFN.out];exact jz (HR6.keep (bR (Below.refl _ _) nq))
    | some gN=>
     rw[hso] at e0 e1;have HSO:Hid (SS.1=some gN):=jz hso;clear hso;simp only[Option.isSome_some,Option.getD_some] at e0 e1;rcases Nat.lt_or_ge p.2.gen gN with hgt|hle
     ·have hgi:(p.2.gen:Int)<gN:=by omega
      have HFN:=jz (HFX.trans (fZ (k:=1) HSO.out (.inr hgt)));go_wp2_with fail
      go_quiet (fail)
      go_wp2_with fail
      refine⟨⟨2,by omega,rfl,by rw[HFN.out];rfl,?_⟩,by simp[intOf]⟩;rw[HFN.out];have hb67:Below w6.heap.size w6 (w6.drewN nq):=bR (Below.refl _ _) nq;exact jz (HR6.put hb67 SS.2 _ HAP.out hgl (aX HOE.out hb67) HOK.out (fun j hj=>by rw[Below.heap_setCell _ ⟨gl,8,none⟩ _ j hj,Below.heap_setCell _ ⟨gl,7,none⟩ _ j hj,Below.heap_setCell _ ⟨gl,5,none⟩ _ j hj]) (by have:=AV (HR6.blk.keep hb67) 1 gN SS.2.length;exact this) (by simp) ⟨rfl,rfl,rfl⟩)
     ·have hgi:(gN:Int)≤p.2.gen:=by omega
      have HFN:=jz (HFX.trans (uL (k:=1) HSO.out HF.out hle));go_wp2_with fail
      go_quiet (fail)
      go_wp2_with fail
      refine⟨⟨2,by omega,rfl,by rw[HFN.out,HFI.out],?_⟩,by simp[intOf]⟩;rw[HFN.out];exact jz (HR6.keep (bR (Below.refl _ _) nq))
  ·go_wp2_with fail
   refine bodyPost_ret (results_tmp3 rfl _ _ _) rfl ?_;exact⟨_,rfl,HR.out⟩
end Go.Proofs.YtombncedfleljaaGreat
