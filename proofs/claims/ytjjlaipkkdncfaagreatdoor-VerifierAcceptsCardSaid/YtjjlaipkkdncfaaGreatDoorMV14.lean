import Derived.Test.YtjjlaipkkdncfaaGreatDoorMV10
import Derived.Laws.OwnMore
import Derived.Laws.IdiomStrings
import Derived.Lib.AppendStr
set_option linter.unusedVariables false
set_option linter.unusedSimpArgs false
set_option maxRecDepth 100000
set_option maxHeartbeats 40000000
namespace Go.Proofs.YtjjlaipkkdncfaaGreatDoor
open Go.Proofs.Tryz
open Go.RowKit
attribute [local irreducible] wpQuiet wpAnyH
def pD(key:List Nat):Nat->Nat:=nth (if 64<key.length then iD key else key)
def kO(x:Nat)(f:Nat->Nat):Nat->Nat:=λk=>f k ^^^ x
def uH(x:Nat)(f:Nat->Nat)(l:List Nat):List Nat:=iD (arr 64 (kO x f)++l)
def d6(key l:List Nat):List Nat:=uH 92 (pD key) (uH 54 (pD key) l)
theorem zD{key:List Nat}(h:Byn key):aQ (pD key):=λk=>by
 unfold pD;split
 ·exact dI (gV key) k
 ·exact dI h k
theorem zF{x:Nat}{f:Nat->Nat}(I:x<256)(D:aQ f):aQ (kO x f):=λk=>Nat.xor_lt_two_pow (n:=8) (D k) I
theorem MU:SlT prog 179 60 1 24:=SlT.mk' underlying179 (z:=.slice none 0 0) (by kernel_rfl) rfl (by decide)
theorem PN.one{w:Wd}{J:Value}{ps:List (Value×List Nat)}(h:PN w J ps):∀ u∈ps.map (·.1),u.oneCell'=true:=λu I=>by
 obtain⟨p,D,rfl⟩:=List.mem_map.1 I;obtain⟨A,cap,e,_⟩:=h.part p D;rw[e];rfl
theorem eH{n:Nat}{f:Nat->Nat}(h:aQ f):Byn (arr n f):=λx D=>by
 unfold arr at D;obtain⟨k,_,rfl⟩:=List.mem_map.1 D;exact h k
theorem CB(x:Nat)(pf:Nat->Nat)(gp:Nat)(va:Value)(ps:List (Value×List Nat))(w:Wd)(hx:x<256)(d2:aQ pf)(hB:AB w gp 195 64 (c8 pf))(hP:PN w va ps)(hn:ps.length<=100)(ht:(bJ ps).length<=800000000)(hk:TabK w):
  Wc 234 #[.int .u8 (x:Nat),va,.pointer (some ⟨gp,0,none⟩)] w (Rt w (.agg (n8 (uH x pf (bJ ps))).toArray)):=by
 obtain⟨A,cap,rfl,e5,_,_⟩:=id hP.row;have HP:=jz hP;have HK:=jz hk;have c2:=jz d2;clear hP hk d2;go_enter func234,ntmps234
 go_upto_region 1 with (refine al 23 _ rfl rfl eB ?_)
 obtain⟨gz,a1⟩:=je w.heap.size;obtain⟨w1,a4⟩:=je (w.alloc (.cells z8x32 23));have J:Bw w w1:=by rw[a4];exact(ji _ w).alloc (ja _) _
 have c5:=hB.keep J;have a9:AB w1 gz 23 32 (c8 λ_=>0):=by rw[a4,a1];exact Blk.new _ _ _
 have d1:=hB.lt;have a8:Hid (gz=w.heap.size/\gz<w1.heap.size):=jz ⟨a1,a9.lt⟩;rw[<- a4];simp only[<- a1];have V:=jz J;have c4:=jz a9;clear a4 a1 hB a9 d1 J;have b3:=c5.range;have hI:(prog.info? 195).map (·.size)=some (arr 64 (c8 pf)).length:=by rw[aA];kernel_rfl
 obtain⟨O,hO⟩:=je (arr 64 (c8 pf));rw[<- hO] at b3 hI;have U:(prog.info? 195).map (·.size)=some O.toArray.size:=by rw[js];exact hI
 have a2:z8x64.size=O.toArray.size:=by rw[hO,aC];exact aC 64 _
 have a3:O.toArray.all (·.oneCell')=true:=by rw[hO];exact aP (λ_=>rfl)
 have HO:=jz hO;clear hO c5;go_upto_region 2 with (first
  | (refine ld 195 _ rfl rfl rfl b3 underlying195 rfl hI ?_)
  | (refine al 195 _ rfl rfl uF ?_)
  | (refine bQ (cells:=O.toArray) 195 (.tmp 6) (.tmp 8) rfl rfl (by rfl) (by rfl) U a2 a3 ?_;intro w3 Z b0 d4))
 obtain⟨gf,b2⟩:=je w1.heap.size;rw[<- b2] at Z ⊢;have f6:gz<gf:=by rw[b2];exact a8.out.2
 have b9:Hid (AB w3 gf 195 64 (c8 λq=>if q<0 then pf q ^^^ x else pf q)/\AB w3 gz 23 32 (c8 λ_=>0)/\Bw w w3):=jz (by
  rw[HO.out] at Z
  exact⟨AB.ext Z (λq _=>by show _=Value.int .u8 ((if q<0 then pf q ^^^ x else pf q:Nat):Int);rw[jQ (by omega)];rfl),c4.keep b0,aB V b0⟩)
 clear Z b0 d4 b2 b3 hI U a2 a3 V c4 HO;go_wp2_with fail
 go_loopw [9] (λi wr=>∃ k:Nat,k<=64/\i = .int .i64 (k:Int)/\Hid (AB wr gf 195 64 (c8 λq=>if q<k then pf q ^^^ x else pf q)/\AB wr gz 23 32 (c8 λ_=>0)/\Bw w wr)) (λi _=>64-(intOf i).toNat)
 case atStart=>exact⟨0,j0 _,rfl,b9⟩
 case round=>
  clear b9;obtain⟨k,hk,rfl,I⟩:=hrel;rcases jo k 64 with e4|f1
  ·have f2:(0:Int)<=k:=by omega
   have f3:(k:Int)<64:=by omega
   have e8:wr.cell? ⟨gf,k,none⟩=some (.int .u8 (pf k:Nat)):=by
    rw[I.out.1.cell e4];show some (Value.int .u8 ((if k<k then pf k ^^^ x else pf k:Nat):Int))=_;rw[jQ (Nat.lt_irrefl _)]
   have f0:=I.out.1.frozen k;have f5:=u8_xor_nat (pf k) x (c2 k) hx;have b7:=I.out.1.set k (.int .u8 (pf k ^^^ x:Nat));rw[cY] at b7;have e1:Hid (AB (wr.setCell ⟨gf,k,none⟩ (.int .u8 (pf k ^^^ x:Nat))) gf 195 64 (c8 λq=>if q<k+1 then pf q ^^^ x else pf q)/\AB (wr.setCell ⟨gf,k,none⟩ (.int .u8 (pf k ^^^ x:Nat))) gz 23 32 (c8 λ_=>0)/\Bw w (wr.setCell ⟨gf,k,none⟩ (.int .u8 (pf k ^^^ x:Nat)))):=jz ⟨b7.ext (λq _=>by
    show Value.int .u8 ((aY (λq=>if q<k then pf q ^^^ x else pf q) k (pf k ^^^ x) q:Nat):Int)=Value.int .u8 ((if q<k+1 then pf q ^^^ x else pf q:Nat):Int)
    congr 2
    unfold aY
    by_cases e:q=k
    ·rw[jP e,jP (by omega),e]
    ·rw[jQ e]
     show(if q<k then pf q ^^^ x else pf q)=_
     by_cases e2:q<k
     ·rw[jP e2,jP (by omega)]
     ·rw[jQ e2,jQ (by omega)]),I.out.2.1.far (by show gz≠gf;omega) _,I.out.2.2.setCell (by have:=a8.out.1;show w.heap.size<=gf;omega) _⟩
   clear b7 I;go_wp2_with fail
   exact⟨⟨k+1,by omega,by go_num,e1⟩,by simp[intOf];omega⟩
  ·have e6:k=64:=by omega
   have f4:¬(k:Int)<64:=by omega
   have HF:Hid (AB wr gf 195 64 (c8 (kO x pf))):=jz (I.out.1.ext (λq hq=>by
    show Value.int .u8 ((if q<k then pf q ^^^ x else pf q:Nat):Int)=Value.int .u8 ((kO x pf q:Nat):Int)
    rw[jP (by omega)]
    rfl))
   have HZ:=jz I.out.2;have a7:Sn (wr.alloc (.cells #[.slice (some ⟨gf,0,none⟩) 64 64] 60)) 1 (.slice A ps.length cap) ps.length (ps.map (·.1)):=(HP.row.below I.out.2.2).alloc _;have a6:=World.ownsRow_lit (base:=w.heap.size) (e:=60) (size:=1) wr #[.slice (some ⟨gf,0,none⟩) 64 64] 1 I.out.2.2.size (by decide) rfl;have e7:=I.out.2.2.size;have a5:=HP.one;clear I;go_wp2_with (at_builtin;refine app MU (.tmp 20) (.tmp 21) rfl (by rfl) (base:=w.heap.size) (by rfl) a6 (by rfl) a7 a5 (by unfold maxLen;omega) (by omega) (by simp;omega) ?_;intro v' w' h2 hg h4)
   have D:Bw wr w':=((ji _ wr).alloc (ja _) _).grown hg (by simp) (λg e=>by cases e;exact ja _);obtain⟨F,hF⟩:=je (arr 64 (kO x pf));have a0:F.length=64:=by rw[hF];exact aA _ _
   have c7:Byn F:=by rw[hF];exact eH (zF hx c2)
   have d3:PN w' v' ((.slice (some ⟨gf,0,none⟩) 64 64,F) :: ps):=⟨by
    have:=Sn.own h2
    rw[show 1+ps.length=((.slice (some ⟨gf,0,none⟩) 64 64,F) :: ps:List (Value×List Nat)).length from by simp;omega] at this
    exact this,λp hp=>by
    rcases List.mem_cons.1 hp with rfl|hp
    ·show Sn w' 1 (.slice (some ⟨gf,0,none⟩) 64 64) F.length (n8 F)
     rw[a0]
     refine⟨some ⟨gf,0,none⟩,64,rfl,ja _,by rw[aJ,a0],λ_=>⟨gf,0,rfl,?_⟩⟩
     have h3:=(HF.keep D).range
     rw[hF,lO]
     exact h3
    ·exact(HP.part p hp).below (aB HZ.out.2 D),λp hp=>by
    rcases List.mem_cons.1 hp with rfl|hp
    ·exact c7
    ·exact HP.byn p hp⟩
   have K:bJ ((.slice (some ⟨gf,0,none⟩) 64 64,F) :: ps)=F++bJ ps:=by unfold bJ;rw[List.flatMap_cons]
   have c3:=jz (G2 v' ((.slice (some ⟨gf,0,none⟩) 64 64,F) :: ps) w' d3 (by simp;omega) (by rw[K,jj,a0];omega) (HK.below (aB HZ.out.2 D)));have c9:=HZ.out.1.keep D;have V:=jz (aB HZ.out.2 D);have HC:Hid (iD (bJ ((.slice (some ⟨gf,0,none⟩) 64 64,F) :: ps))=uH x pf (bJ ps)):=jz (by rw[K,hF];rfl);clear d3 K c7 a0 hF a6 a7 a5 h2 hg h4 HF HZ D;refine c3.mono ?_;rintro e w7 ⟨rfl,b1⟩;rw[HC.out];have e0:Blk w7 gz 23 z8x32:=c9.keep b1;have d5:=jz (aB V b1);obtain⟨M,hM⟩:=je (n8 (uH x pf (bJ ps)));have R:M.length=32:=by rw[hM,aJ];exact bL _
   have U:(prog.info? 23).map (·.size)=some M.toArray.size:=by rw[js,R];kernel_rfl
   have a2:z8x32.size=M.toArray.size:=by rw[show M.toArray.size=32 from by rw[js,R]];exact aC 32 _
   have a3:M.toArray.all (·.oneCell')=true:=by rw[hM];exact all_oneCell_toArray (bK _)
   rw[<- hM];have HM:=jz hM;clear hM b1 c9 c3 R;go_wp2_with (refine aN 23 (.tmp 5) (.tmp 23) rfl rfl rfl rfl e0 U a2 a3 ?_;intro w9 c6 d0 _ _;have d7:=jz c6;have e3:=jz d0;clear c6 d0)
   exact bodyPost_ret (results_cell_row rfl _ _ gz 23 _ (0,0) _ rfl d7 underlying23 rfl U) rfl ⟨by rw[<- HM.out],d5.trans (e3.mono (by have:=a8.out.1;omega))⟩
theorem xQ{w:Wd}{gi:Nat}{l:List Nat}(n:Nat)(D:l.length=n)(I:w.rangeAt gi 0 (n8 l)):Sn w 1 (.slice (some ⟨gi,0,none⟩) n n) l.length (n8 l):=by
 subst D;exact⟨some ⟨gi,0,none⟩,_,rfl,ja _,by rw[aJ,Nat.mul_one],λ_=>⟨gi,0,rfl,I⟩⟩
theorem T8{w:Wd}{h gi:Nat}{l:List Nat}(n:Nat)(O:l.length=n)(R:w.rangeAt gi 0 (n8 l))(K:w.cell? ⟨h,0,none⟩=some (.slice (some ⟨gi,0,none⟩) n n))(hb:Byn l):PN w (.slice (some ⟨h,0,none⟩) 1 1) [(.slice (some ⟨gi,0,none⟩) n n,l)]:=
 ⟨⟨some ⟨h,0,none⟩,1,rfl,ja _,rfl,λ_=>⟨h,0,rfl,λj u I=>by
  have J:j=0:=by
   have:=(List.getElem?_eq_some_iff.1 I).1
   simp at this
   omega
  subst J
  have:some (Value.slice (some ⟨gi,0,none⟩) n n)=some u:=I
  injection this with this
  rw[<- this]
  exact K⟩⟩,λp D=>by
  rw[List.mem_singleton.1 D]
  exact xQ n O R,λp D=>by
  rw[List.mem_singleton.1 D]
  exact hb⟩
theorem uI(vk va:Value)(key:List Nat)(ps:List (Value×List Nat))(w:Wd)(hs:Sn w 1 vk key.length (n8 key))(c9:Byn key)(e2:key.length<=64)(hP:PN w va ps)(hn:ps.length<=100)(ht:(bJ ps).length<=800000000)(hk:TabK w):
  Wc 211 #[vk,va] w (Rt w (.agg (n8 (d6 key (bJ ps))).toArray)):=by
 obtain⟨Ak,e4,rfl,e1,_,_⟩:=id hs;have HP:=jz hP;have HK:=jz hk;have HS:=jz hs;have b9:=jz c9;clear hP hk hs c9;go_enter func211,ntmps211
 go_upto_region 2 with (first
  | (refine al 23 _ rfl rfl eB ?_)
  | (refine al 195 _ rfl rfl uF ?_))
 obtain⟨gz,a5⟩:=je w.heap.size;obtain⟨w1,b0⟩:=je ((w.alloc (.cells z8x32 23)).alloc (.cells z8x64 195));have D:Hid (AB w1 gz 23 32 (c8 λ_=>0)/\AB w1 (gz+1) 195 64 (c8 λ_=>0)/\Bw w w1):=jz (by
  rw[b0,a5]
  exact⟨(Blk.new _ _ _).alloc _,Blk.newAt _ _ _ _ (by simp),((ji _ w).alloc (ja _) _).alloc (by simp) _⟩)
 rw[<- b0];simp only[World.size_alloc,<- a5];have b2:=jz a5;clear b0 a5;have e5:(key.length:Int)<=64:=by omega
 have d1:=HS.below D.out.2.2;have d2:w1.there (gz+1) 0 key.length:=λj hj=>⟨by
  rw[Nat.zero_add,D.out.2.1.cell (i:=j) (by omega)]
  rfl,D.out.2.1.frozen _⟩
 have a7:=bK key;go_upto_region 6 with (refine cp (.tmp 18) (.tmp 19) rfl (by rfl) (b:=gz+1) (off:=0) (dn:=64) (dc:=64) (by rfl) (by rfl) underlying60 (by kernel_rfl) d1 e2 d2 a7 ?_)
 obtain⟨w2,b1⟩:=je (w1.setCells (gz+1) 0 (n8 key));have J:Hid (AB w2 gz 23 32 (c8 λ_=>0)/\AB w2 (gz+1) 195 64 (c8 (pD key))/\Bw w w2):=jz (by
  rw[b1]
  refine⟨(bF (by omega) _ _ _).trans D.out.1,(D.out.2.1.setL key).ext (λq hq=>?_),D.out.2.2.trans (aU (by rw[b2.out];omega) _ _ _).1⟩
  show Value.int .u8 ((if 0<=q/\q<0+key.length then nth key (q-0) else 0:Nat):Int)=Value.int .u8 ((pD key q:Nat):Int)
  congr 2
  unfold pD
  rw[jQ (show ¬64<key.length by omega)]
  by_cases e:q<key.length
  ·rw[jP (by omega),Nat.sub_zero]
  ·rw[jQ (by omega)]
   unfold nth
   rw[jn,List.getElem?_eq_none (by omega)]
   rfl)
 rw[<- b1];clear b1 d1 d2 a7 D;have b3:=jz (CB 54 (pD key) (gz+1) va ps w2 (by omega) (zD b9) J.out.2.1 (HP.below J.out.2.2) hn ht (HK.below J.out.2.2));go_wp2_with fail
 refine b3.mono ?_;rintro e w3 ⟨rfl,a3⟩;have a1:Hid (AB w3 gz 23 32 (c8 λ_=>0)/\AB w3 (gz+1) 195 64 (c8 (pD key))/\Bw w w3):=jz ⟨J.out.1.keep a3,J.out.2.1.keep a3,aB J.out.2.2 a3⟩;clear a3 J b3;obtain⟨I,hI⟩:=je (uH 54 (pD key) (bJ ps));have a2:I.length=32:=by rw[hI];exact bL _
 have c4:Byn I:=by rw[hI];exact gV _
 rw[<- hI];have K:(prog.info? 23).map (·.size)=some (n8 I).toArray.size:=by rw[js,aJ,a2];kernel_rfl
 have Z:z8x32.size=(n8 I).toArray.size:=by rw[show(n8 I).toArray.size=32 from by rw[js,aJ,a2]];exact aC 32 _
 have a0:(n8 I).toArray.all (·.oneCell')=true:=all_oneCell_toArray (bK _);have HI:=jz hI;obtain⟨O,hO⟩:=je ((n8 I).toArray);rw[<- hO] at K Z a0 ⊢;have HO:=jz hO;clear hI hO;go_upto_region 8 with (first
  | (refine al 23 _ rfl rfl eB ?_)
  | (refine bQ (cells:=O) 23 (.tmp 8) (.tmp 24) rfl rfl (by rfl) (by rfl) K Z a0 ?_;intro w4 a8 a4 e3))
 obtain⟨gi,c7⟩:=je w3.heap.size;rw[<- c7] at a8 ⊢;obtain⟨w5,a6⟩:=je (w4.alloc (.cells #[.slice (some ⟨gi,0,none⟩) 32 32] 60));have R:Bw w4 w5:=by rw[a6];exact(ji _ w4).alloc (ja _) _
 have U:=aB (aB a1.out.2.2 a4) R;have d0:w5.rangeAt gi 0 (n8 I):=by
  have h1:Blk w4 gi 23 O:=a8;have:=(h1.keep R).range;rw[HO.out,jt] at this;exact this
 have c6:w5.cell? ⟨w4.heap.size,0,none⟩=some (.slice (some ⟨gi,0,none⟩) 32 32):=by rw[a6];exact((Blk.new w4 _ _).cell 0).trans rfl
 have b7:=jz (CB 92 (pD key) (gz+1) (.slice (some ⟨w4.heap.size,0,none⟩) 1 1) [(.slice (some ⟨gi,0,none⟩) 32 32,I)] w5 (by omega) (zD b9) ((a1.out.2.1.keep a4).keep R) (T8 32 a2 d0 c6 c4) (by simp) (by unfold bJ;simp;omega) (HK.below U));have c2:=jz (And.intro ((a1.out.1.keep a4).keep R) U);have HC:Hid (uH 92 (pD key) (bJ [(.slice (some ⟨gi,0,none⟩) 32 32,I)])=d6 key (bJ ps)):=jz (by
  unfold bJ
  rw[List.flatMap_singleton,HI.out]
  rfl)
 have e0:=jz a6;clear a6 R U d0 c6 a8 a4 e3 a1 c7 K Z a0 HO HI a2 c4;go_wp2_with fail
 rw[<- e0.out];refine b7.mono ?_;rintro e w7 ⟨rfl,a9⟩;rw[HC.out];have d5:Blk w7 gz 23 z8x32:=c2.out.1.keep a9;have d3:=jz (aB c2.out.2 a9);obtain⟨M,hM⟩:=je (n8 (d6 key (bJ ps)));have V:M.length=32:=by rw[hM,aJ];exact bL _
 have K:(prog.info? 23).map (·.size)=some M.toArray.size:=by rw[js,V];kernel_rfl
 have Z:z8x32.size=M.toArray.size:=by rw[show M.toArray.size=32 from by rw[js,V]];exact aC 32 _
 have a0:M.toArray.all (·.oneCell')=true:=by rw[hM];exact all_oneCell_toArray (bK _)
 rw[<- hM];have HM:=jz hM;clear hM a9 b7 V;go_wp2_with (refine aN 23 (.tmp 4) (.tmp 28) rfl rfl rfl rfl d5 K Z a0 ?_;intro w9 c3 c5 _ _;have d4:=jz c3;have d7:=jz c5;clear c3 c5)
 exact bodyPost_ret (results_cell_row rfl _ _ gz 23 _ (0,0) _ rfl d4 underlying23 rfl K) rfl ⟨by rw[<- HM.out],d3.trans (d7.mono (by rw[b2.out];exact ja _))⟩
def bn(s:ByteArray):List Nat:=s.data.toList.map (·.toNat)
theorem eF(s:ByteArray):(bn s).length=s.size:=by unfold bn;rw[List.length_map];rfl
theorem ET(s:ByteArray):Byn (bn s):=λx D=>by
 unfold bn at D;obtain⟨b,_,rfl⟩:=List.mem_map.1 D;exact b.toNat_lt
theorem CC(s:ByteArray)(w:Wd)(R:s.size<=1000000):
  ∃ v w',(convert 9 60 (.string s)).run prog w = .ok v w'/\Sn w' 1 v (bn s).length (n8 (bn s))/\Bw w w':=by
 have O:=run_bytes_of_string (P:=prog) w 9 60 5 s underlying9 underlying60 underlying5;have I:=grownCap_ge w s.size 0 5;obtain⟨cap,D⟩:=je (grownCap w s.size 0 5);rw[<- D] at O I;refine⟨_,_,O,?_,(ji _ w).drew.alloc (ja _) _⟩;rw[eF];refine⟨_,_,rfl,I,by rw[aJ,eF,Nat.mul_one],λ_=>⟨w.heap.size,0,rfl,λj u K=>?_⟩⟩;refine(cell_of_row _ w.heap.size (0+j) (bytesRow s cap) 5 _ (heap_alloc_new w.drew _)).trans ?_;have J:j<s.data.size:=by
  have:=(List.getElem?_eq_some_iff.1 K).1;rw[aJ,eF] at this;exact this
 rw[Nat.zero_add,<- K];unfold bytesRow n8 bn;rw[Array.getElem?_append_left (by rw[Array.size_map];exact J)];simp[List.getElem?_map,Array.getElem?_map,J];rfl
theorem qJ{w:Wd}{h:Nat}(ps:List (Value×List Nat))(n:Nat)(D:ps.length=n)(J:w.rangeAt h 0 (ps.map (·.1)))(I:∀ p∈ps,Sn w 1 p.1 p.2.length (n8 p.2))(hb:∀ p∈ps,Byn p.2):PN w (.slice (some ⟨h,0,none⟩) n n) ps:=by
 subst D;exact⟨⟨some ⟨h,0,none⟩,_,rfl,ja _,by simp,λ_=>⟨h,0,rfl,J⟩⟩,I,hb⟩
theorem G6{w:Wd}{base e s n:Nat}{v:Value}{J:Wv}(h:w.ownsRow base e s v n J):∀ b,v.ownBlock=some b->base<=b:=λb e=>by
 obtain⟨O,h|⟨K,D,I,rfl,hb,_⟩⟩:=h
 ·rw[h.1] at e;cases e
 ·injection e with e
  rw[<- e];exact hb
theorem uJ(vk:Value)(key:List Nat)(s:ByteArray)(n:Nat)(w:Wd)(hs:Sn w 1 vk key.length (n8 key))(c7:Byn key)(e8:key.length<=64)(g1:s.size<=100)(g0:1<=n)(hn:n<=32)(hk:TabK w):
  Wc 209 #[vk,.string s,.int .i64 n] w λe w'=>∃ v,e = .returned v/\w'.ownsRow w.heap.size 5 1 v n (n8 ((d6 key (1 :: bn s)).take n))/\Bw w w':=by
 obtain⟨Ak,b3,rfl,e7,_,_⟩:=id hs;have HK:=jz hk;have HS:=jz hs;have d7:=jz c7;clear hk hs c7;have f7:(1:Int)<=n:=by omega
 have f8:(n:Int)<=32:=by omega
 obtain⟨i,hi,hz,f4,e6⟩:=info_parts (P:=prog) (e:=5) (z:=.int .u8 0) (size:=1) (bytes:=1) (by kernel_rfl);obtain⟨D,hD⟩:=je (d6 key (1 :: bn s));have b9:D.length=32:=by rw[hD];exact bL _
 rw[<- hD];have HD:=jz hD;clear hD;go_enter func209,ntmps209
 go_wp2_with (at_make;refine wpList_make_own _ rfl (.const (.int .i64 0)) (.tmp 16) 60 rfl w.heap.size 5 i (.int .u8 0) 1 underlying60 hi hz f4 .i64 .i64 (n:Int) n rfl rfl rfl (by rw[e6];omega) (by unfold maxLen;omega) (ja _) ?_;intro w2 a4 hg)
 have c2:Bw w w2:=(ji _ w).grown hg (ja _) (λg e=>by cases e);clear hg;go_loopw [8,7] (λi v wr=>∃ m:Nat,(m=0/\i = .int .i64 1\/m=n/\i = .int .i64 2)/\Hid (wr.ownsRow w.heap.size 5 1 v m (n8 (D.take m))/\Bw w wr)) (λi _ _=>2-(intOf i).toNat)
 case atStart=>exact⟨0,.inl ⟨rfl,rfl⟩,jz ⟨by rw[List.take_zero];exact a4,c2⟩⟩
 case round=>
  clear a4 c2;obtain⟨m,hm,HO⟩:=hrel;obtain⟨A,cap,rfl,f5,_,_⟩:=id (Sn.own HO.out.1);rcases hm with ⟨rfl,rfl⟩|⟨rfl,rfl⟩
  ·obtain⟨w3,a1⟩:=je (wr.alloc (.cells #[.int .u8 1] 5));have c3:Bw wr w3:=by rw[a1];exact(ji _ wr).alloc (ja _) _
   obtain⟨v4,w4,c5,b1,a7⟩:=CC s w3 (by omega);have b7:w3.rangeAt wr.heap.size 0 (n8 [1]):=by rw[a1];exact(Blk.new wr _ _).range
   have Z:Sn w3 1 (.slice (some ⟨wr.heap.size,0,none⟩) 1 1) [1].length (n8 [1]):=xQ 1 rfl b7;obtain⟨A4,c4,rfl,_,_,_⟩:=id b1;have e5:=jz a1;rw[a1] at c5;have d4:=jz (aB HO.out.2 c3);have e3:=jz (Z.below a7);have e4:=jz b1;have b2:=jz a7;clear a1 c3 b7 Z b1 a7;go_wp2_with fail
   obtain⟨w5,a2⟩:=je (w4.alloc (.cells #[.slice (some ⟨wr.heap.size,0,none⟩) 1 1,.slice A4 (bn s).length c4] 60));have K:Bw w4 w5:=by rw[a2];exact(ji _ w4).alloc (ja _) _
   have d0:w5.rangeAt w4.heap.size 0 ([((.slice (some ⟨wr.heap.size,0,none⟩) 1 1,[1]):Value×List Nat),(.slice A4 (bn s).length c4,bn s)].map (·.1)):=by rw[a2];exact(Blk.new w4 _ _).range
   have a5:=jz (aB (aB d4 b2) K);have c9:PN w5 (.slice (some ⟨w4.heap.size,0,none⟩) 2 2) [(.slice (some ⟨wr.heap.size,0,none⟩) 1 1,[1]),(.slice A4 (bn s).length c4,bn s)]:=qJ _ 2 rfl d0 (λp hp=>by
    rcases List.mem_cons.1 hp with rfl|hp
    ·exact e3.below K
    ·rw[List.mem_singleton.1 hp]
     exact e4.below K) (λp hp=>by
    rcases List.mem_cons.1 hp with rfl|hp
    ·intro x hx
     rw[List.mem_singleton.1 hx]
     decide
    ·rw[List.mem_singleton.1 hp]
     exact ET s)
   have U:bJ [(.slice (some ⟨wr.heap.size,0,none⟩) 1 1,[1]),(.slice A4 (bn s).length c4,bn s)]=1 :: bn s:=by simp[bJ]
   have J:=uI (.slice Ak key.length b3) _ key _ w5 (HS.below a5) d7 e8 c9 (by simp) (by rw[U];simp[eF];omega) (HK.below a5);rw[U,<- HD.out] at J;have J:=jz J;have e0:=jz (aE HO.out.1 (aB (aB (show Bw wr w3 by rw[e5.out];exact(ji _ wr).alloc (ja _) _) b2) K));rw[<- a2];clear c5 a2 K d0 c9 U;refine J.mono ?_;rintro e w6 ⟨rfl,a8⟩;have d5:=jz (aB a5 a8);have e1:=jz (aE e0 a8);obtain⟨O,hO⟩:=je ((n8 D).toArray);have Z:(prog.info? 23).map (·.size)=some O.size:=by rw[hO,js,aJ,b9];kernel_rfl
   have d1:z8x32.size=O.size:=by rw[show O.size=32 from by rw[hO,js,aJ,b9]];exact aC 32 _
   have d2:O.all (·.oneCell')=true:=by rw[hO];exact all_oneCell_toArray (bK _)
   rw[<- hO];have e2:=jz hO;clear hO a8 J;go_upto_region 8 with (first
    | (refine al 23 _ rfl rfl eB ?_)
    | (refine bQ (cells:=O) 23 (.tmp 9) (.tmp 31) rfl rfl (by rfl) (by rfl) Z d1 d2 ?_;intro w7 a6 a9 f3))
   obtain⟨gc,c6⟩:=je w6.heap.size;rw[<- c6] at a6 ⊢;have R:=aB d5 a9;have V:=aE e1 a9;have a0:Sn w7 1 (.slice (some ⟨gc,0,none⟩) n 32) n (n8 (D.take n)):=by
    have f2:w7.rangeAt gc 0 (n8 D):=by
     have h1:Blk w7 gc 23 O:=a6;have:=h1.range;rw[e2.out,jt] at this;exact this
    refine⟨some ⟨gc,0,none⟩,32,rfl,hn,by rw[aJ,jv];omega,λ_=>⟨gc,0,rfl,λj u hj=>f2 j u ?_⟩⟩;rw[<- s6,List.getElem?_take] at hj;split at hj
    ·exact hj
    ·cases hj
   have f6:prog.arrayLen 23=32:=by kernel_rfl
   have a3:=bK (D.take n);have I:=R.size;clear a6 a9 f3 Z d1 d2 c6;have b0:n<32\/n=32:=by omega
   rcases b0 with hq|hq
   ·have f1:(n:Int)<32:=by omega
    have f0:min (32:Int) (n:Int)=n:=by omega
    go_wp2_with (at_builtin;refine app fQ (.tmp 32) (.tmp 38) rfl (by rfl) (base:=w.heap.size) (by rfl) V (by rfl) a0 a3 (by unfold maxLen;omega) (by omega) I ?_;intro v' w' h2 hg h4)
    refine⟨⟨n,.inr ⟨rfl,rfl⟩,jz ⟨?_,R.grown hg I (λg e=>G6 HO.out.1 g e)⟩⟩,by simp[intOf]⟩;rw[List.take_zero,Nat.zero_add] at h2;exact h2
   ·have f1:¬(n:Int)<32:=by omega
    have f0:min (32:Int) (n:Int)=32:=by omega
    have d3:Sn w7 1 (.slice (some ⟨gc,0,none⟩) 32 32) 32 (n8 (D.take n)):=by
     have h:=a0;simp only[hq] at h ⊢;exact h
    have HQ:=jz hq;clear a0 hq;go_wp2_with (at_builtin;refine app fQ (.tmp 32) (.tmp 38) rfl (by rfl) (base:=w.heap.size) (by rfl) V (by rfl) d3 a3 (by unfold maxLen;omega) (by omega) I ?_;intro v' w' h2 hg h4)
    refine⟨⟨n,.inr ⟨rfl,rfl⟩,jz ⟨?_,R.grown hg I (λg e=>G6 HO.out.1 g e)⟩⟩,by simp[intOf]⟩;rw[List.take_zero,Nat.zero_add] at h2;rw[show w'.ownsRow w.heap.size 5 1 v' n (n8 (D.take n))=w'.ownsRow w.heap.size 5 1 v' 32 (n8 (D.take n)) from by rw[HQ.out]];exact h2
  ·have f9:¬(m:Int)<m:=by omega
   go_wp2_with fail
   go_ret;exact⟨_,rfl,HO.out.1,HO.out.2⟩
section
variable {P : Program} {ops : Array Oper} {Q : Exit -> Act -> Wd -> Prop} {S : Wd -> Prop} {a : Act} {w : Wd} {listed : Array Bool} {fuel : Nat}
theorem kCp(i:Nat)(dst:Option Tmp){dT sT elem:TypeId}{p q:Operand}{b off dn dc n:Nat}{v:Value}{I:Wv}(Z:P.underlying dT=some (.slice elem))(hs:(P.info? elem).map (·.size)=some 1)(hx:Sn w 1 v n I)(O:n<=dn)(ht:w.there b off n)(h1:∀ u∈I,u.oneCell'=true)(hS:S (w.setCells b off I))
  {o:Oper} (R:ops[i]? = some o:=by rfl) (D:o.dst=dst:=by rfl) (J:o.op = .call { callee:=.builtin .copy,args:=#[p,q],argTypes:=#[dT,sT] }:=by rfl) (U:a.eval p = .slice (some ⟨b,off,none⟩) dn dc:=by kernel_rfl) (V:a.eval q=v:=by kernel_rfl) (K:kOne ops listed a i=true:=by kernel_rfl)
  (h:wpAnyH P .any ops Q S fuel (listed.setIfInBounds i true) (a.put dst (goInt n)) (w.setCells b off I)):wpAnyH P .any ops Q S (fuel+1) listed a w:=
 kS i dst (goInt n) (w.setCells b off I) R D K (by
  have hrun:=mK (P:=P) (ty:=o.type) (sT:=sT) (dc:=dc) Z hs hx O ht h1
  unfold execOp
  simp only[J,resolve,invoke,builtin,Sem.run_bind,Sem.run_pure,Result.andThen_ok,List.map_toArray,List.map_cons,List.map_nil,U,V,hrun]) hS h
end
def z8x16:Wa:=(arr 16 (c8 λ_=>0)).toArray
theorem cK:∀ w,(zeroValue 41).run prog w = .ok (.agg z8x16) w:=λw=>by unfold z8x16;kernel_rfl
theorem zG{l:List Nat}{n:Nat}(h:l.length=n):n8 l=arr n (c8 (nth l)):=by
 subst h;apply List.ext_getElem?;intro k;by_cases hk:k<l.length
 ·rw[oE l k hk,dC _ hk];rfl
 ·rw[List.getElem?_eq_none (by rw[aJ];omega),List.getElem?_eq_none (by rw[aA];omega)]
def wO(key:List Nat)(s:ByteArray):List Nat:=(d6 key (1 :: bn s)).take 16
theorem fO(key:List Nat)(s:ByteArray):(wO key s).length=16:=by
 unfold wO;rw[jv,show(d6 key (1 :: bn s)).length=32 from bL _];rfl
theorem CD(key l:List Nat):Byn (d6 key l):=gV _
theorem uK(key:List Nat)(s:ByteArray):Byn (wO key s):=λx D=>CD _ _ x (j7 D)
theorem QZ(vk:Value)(key:List Nat)(s:ByteArray)(w:Wd)(hs:Sn w 1 vk key.length (n8 key))(a7:Byn key)(c2:key.length<=64)(c5:s.size<=100)(hk:TabK w):
  Wc 210 #[vk,.string s] w (Rt w (.agg (n8 (wO key s)).toArray)):=by
 obtain⟨Ak,R,rfl,b9,_,_⟩:=id hs;have HK:=jz hk;have HS:=jz hs;have b7:=jz a7;clear hk hs a7;go_enter func210,ntmps210
 go_upto_region 2 with (refine al 41 _ rfl rfl cK ?_)
 obtain⟨gz,O⟩:=je w.heap.size;obtain⟨w1,a1⟩:=je ((w.alloc (.cells z8x16 41)).alloc (.cells z8x16 41));have J:Hid (AB w1 gz 41 16 (c8 λ_=>0)/\AB w1 (gz+1) 41 16 (c8 λ_=>0)/\Bw w w1):=jz (by
  rw[a1,O]
  exact⟨(Blk.new _ _ _).alloc _,Blk.newAt _ _ _ _ (by simp),((ji _ w).alloc (ja _) _).alloc (by simp) _⟩)
 rw[<- a1];simp only[World.size_alloc,<- O];have a4:=jz O;clear a1 O;have c6:prog.arrayLen 41=16:=by kernel_rfl
 obtain⟨wS,a3⟩:=je w1.drew;have I:Hid (AB wS gz 41 16 (c8 λ_=>0)/\AB wS (gz+1) 41 16 (c8 λ_=>0)/\Bw w wS):=jz (by rw[a3];exact⟨J.out.1,J.out.2.1,J.out.2.2.drew⟩);have b2:=jz (uJ (.slice Ak key.length R) key s 16 wS (HS.below I.out.2.2) b7 c2 c5 (by omega) (by omega) (HK.below I.out.2.2));refine kZ (n:=5) (λW=>True) trivial (h:=λhH=>?_);rw[<- a3];clear a3 J;refine qM 1 (.slice Ak key.length R) ?_;refine qM 2 (.string s) ?_;refine qT 0 (.slice (some ⟨gz+1,0,none⟩) 16 16) ?_;refine kF 3 (some 9) ((b2).mono ?_);rintro e w2 ⟨v,rfl,U,K⟩;refine⟨_,rfl,trivial,λhH=>?_⟩;simp only[jq];have D:Hid (AB w2 gz 41 16 (c8 λ_=>0)/\AB w2 (gz+1) 41 16 (c8 λ_=>0)/\Bw w w2):=jz ⟨I.out.1.keep K,I.out.2.1.keep K,aB I.out.2.2 K⟩;have a9:w2.there (gz+1) 0 16:=λj hj=>⟨by
  rw[Nat.zero_add,D.out.2.1.cell (i:=j) hj]
  rfl,D.out.2.1.frozen _⟩
 refine kCp 4 (some 10) (dn:=16) (dc:=16) underlying60 (by kernel_rfl) (Sn.own U) (ja _) a9 (bK _) trivial (h:=?_);simp only[jq];refine kE (h:=?_);obtain⟨w3,a2⟩:=je (w2.setCells (gz+1) 0 (n8 ((d6 key (1 :: bn s)).take 16)));have V:Hid (AB w3 gz 41 16 (c8 λ_=>0)/\AB w3 (gz+1) 41 16 (c8 (nth (wO key s)))/\Bw w w3):=jz (by
  rw[a2]
  refine⟨(bF (by omega) _ _ _).trans D.out.1,(D.out.2.1.setL _).ext (λq hq=>?_),D.out.2.2.trans (aU (by rw[a4.out];omega) _ _ _).1⟩
  show Value.int .u8 ((if 0<=q/\q<0+(wO key s).length then nth (wO key s) (q-0) else 0:Nat):Int)=_
  rw[jP (by rw[fO];omega),Nat.sub_zero]
  rfl)
 rw[<- a2];clear a2 a9 U K D I hH;have a0:=V.out.2.1.range;rw[<- zG (fO key s)] at a0;obtain⟨M,hM⟩:=je (n8 (wO key s));rw[<- hM] at a0;have Z:M.length=16:=by rw[hM,aJ];exact fO _ _
 have hI:(prog.info? 41).map (·.size)=some M.length:=by rw[Z];kernel_rfl
 have a8:(prog.info? 41).map (·.size)=some M.toArray.size:=by rw[js];exact hI
 have c3:z8x16.size=M.toArray.size:=by rw[show M.toArray.size=16 from by rw[js,Z]];exact aC 16 _
 have c4:M.toArray.all (·.oneCell')=true:=by rw[hM];exact all_oneCell_toArray (bK _)
 have b1:Blk w3 gz 41 z8x16:=V.out.1;have HM:=jz hM;clear hM Z;go_wp2_with (first
  | (refine ld 41 _ rfl rfl rfl a0 underlying41 rfl hI ?_)
  | (refine aN 41 (.tmp 4) (.tmp 11) rfl rfl rfl rfl b1 a8 c3 c4 ?_;intro w9 a5 a6 _ _;have b0:=jz a5;have b3:=jz a6;clear a5 a6))
 exact bodyPost_ret (results_cell_row rfl _ _ gz 41 _ (0,0) _ rfl b0 underlying41 rfl a8) rfl ⟨by rw[<- HM.out],V.out.2.2.trans (b3.mono (by rw[a4.out];exact ja _))⟩
end Go.Proofs.YtjjlaipkkdncfaaGreatDoor
