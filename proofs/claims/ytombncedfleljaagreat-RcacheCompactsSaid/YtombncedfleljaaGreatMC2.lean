import Derived.Test.YtombncedfleljaaGreatMC1
import Derived.Laws.Bits64b
import Derived.Laws.BitsAllLaws
set_option linter.unusedSimpArgs false
set_option maxRecDepth 100000
set_option maxHeartbeats 40000000
namespace Go.Proofs.YtombncedfleljaaGreat
section
open Go.RowKit
attribute [local irreducible] wpQuiet wpAnyH
def beN(l:List Int):Nat:=l.foldl (fun x c=>x*256+c.toNat) 0
theorem qM(l:List Int)(k:Nat)(h:k<l.length):beN (l.take (k+1))=beN (l.take k)*256+l[k].toNat:=by
 unfold beN;rw[List.take_succ_eq_append_getElem h,List.foldl_append];rfl
theorem jO(l:List Int)(hb:Bys l):beN l<256 ^ l.length:=by
 have key:∀ k,k≤l.length→beN (l.take k)<256 ^ k:=by
  intro k;induction k with
  | zero=>intro _;simp[beN]
  | succ k ih=>
   intro hk;have hlt:k<l.length:=by omega
   rw[qM l k hlt,Nat.pow_succ];have h1:=ih (by omega);have h2:=hb l[k] (List.getElem_mem hlt);have h3:beN (l.take k)*256+256≤256 ^ k*256:=by
    have:=Nat.mul_le_mul_right 256 (show beN (l.take k)+1≤256 ^ k from h1);rw[Nat.add_mul] at this;omega
   omega
 have:=key l.length (Nat.le_refl _)
 rwa [List.take_length] at this
theorem IY(y c j:Nat)(hj:j≤7)(hy:y<256 ^ j)(hc:c<256):bits .or .u64 (IntKind.u64.wrap ((y:Int)*256)) (c:Int)=((y*256+c:Nat):Int):=by
 have h7:(256:Nat) ^ j≤256 ^ 7:=Nat.pow_le_pow_right (by omega) hj;have e7:(256:Nat) ^ 7=72057594037927936:=by decide
 have hw:IntKind.u64.wrap ((y:Int)*256)=((y*256:Nat):Int):=by
  rw[IntWalk.u64_in _ (by omega)];simp
 rw[hw,bits_or_u64_nat (y*256) c (by omega) (by omega)];have:=Nat.two_pow_add_eq_or_of_lt (i:=8) (b:=c) (by simpa using hc) y;rw[show(2:Nat) ^ 8=256 from rfl] at this;rw[Nat.mul_comm y 256,← this]
theorem DO(r:Nat)(v:Value)(xs:List Int)(bad:Bool)(k:Nat)(w:World)(h:RD w r v xs bad)(hb:Bys xs)(hl:xs.length≤1000000)(hk1:1≤k)(hk8:k≤8):
    Calls Tryz.prog 141 #[.pointer (some ⟨r,0,none⟩),.int .i64 k] w fun e w'=>Off r w w' ∧
      ((bad = false ∧ k ≤ xs.length ∧ ∃ v', e = .returned (.tuple #[.int .u64 (beN (xs.take k)), .bool true]) ∧ RD w' r v' (xs.drop k) false) ∨
       ((bad=true∨xs.length<k)∧e = .returned (.tuple #[.int .u64 0,.bool false])∧RD w' r (.slice none 0 0) [] true)):=by
  have HR:=jz h;clear h;have hi1:(1:Int)≤k:=by omega
  have hi8:(k:Int)≤8:=by omega
  go_enter Tryz.func141,Tryz.ntmps141
  go_wp2_with fail
  refine(BZ r v xs bad k w HR.out hl).mono ?_;rintro e w1 ⟨ho,⟨rfl,hkl,x,v',rfl,hsx,hR⟩|⟨hbad,rfl,hR⟩⟩
  · obtain⟨A,cap,rfl,hcap,_,_⟩:=id hsx;have hbk:Bys (xs.take k):=fun b hb'=>hb b (List.mem_of_mem_take hb')
    obtain⟨l,hL⟩:=je (xs.take k);have hll:l.length=k:=by rw[hL,List.length_take];omega
    rw[← hL] at hsx hbk;have HL:=jz hL;have HBK:=jz hbk;have HSX:=jz hsx;have HO:=jz ho;have HRR:=jz hR;have HLL:=jz hll;clear hL hsx hbk ho hR hkl hll hb;go_wp2_with fail
    go_loopw [30,8] (fun i x wr=>∃ j:Nat,j≤k∧i = .int .i64 j∧x = .int .u64 (beN (l.take j))∧wr=w1) (fun i _ _=>k-(intOf i).toNat)
    case atStart=>exact⟨0,Nat.zero_le _,rfl,rfl,rfl⟩
    case round=>
      obtain⟨j,hj,rfl,rfl,rfl⟩:=hrel;by_cases hlt:j<k
      · obtain⟨A',cap',hA,_,hl',hcell⟩:=HSX.out;injection hA with hA _ _
        subst hA;obtain⟨b,off,rfl,hr⟩:=hcell (by omega);have hjl:j<l.length:=by rw[HLL.out];exact hlt
        have hc:=hr j _ (jI l j hjl);have hby:=HBK.out l[j] (List.getElem_mem hjl);obtain⟨c,hcc⟩:∃ c:Nat,l[j]=c:=⟨l[j].toNat,by omega⟩;have hsn:=qM l j hjl;rw[hcc] at hc hsn hby;have hlt56:beN (l.take j)<256 ^ j:=by
          have:=jO (l.take j) (fun b hb=>HBK.out b (List.mem_of_mem_take hb))
          rwa [List.length_take,Nat.min_eq_left (by omega)] at this
        obtain⟨y,hy⟩:=je (beN (l.take j));rw[← hy] at hsn hlt56;rw[← hy];have HSN:=jz hsn;have hor:bits .or .u64 (IntKind.u64.wrap ((y:Int)*256)) (c:Int)=((y*256+c:Nat):Int):=IY y c j (by omega) hlt56 (by omega);have hi0:(0:Int)≤j:=by omega
        have hi2:(j:Int)<k:=by omega
        clear hr hcell hsn hy hcc hl';go_wp2_with fail
        refine⟨⟨j+1,by omega,by go_num,?_,by trivial⟩,by simp[intOf];omega⟩;rw[HSN.out];simp
      · obtain rfl:j=k:=by omega
        rw[List.take_of_length_le (by rw[HLL.out];omega)];go_wp2_with fail
        go_ret2
        refine⟨HO.out,.inl ⟨?_,?_,v',HRR.out⟩⟩
        · have:=HLL.out;rw[HL.out,List.length_take] at this;omega
        · rw[HL.out];rfl
  · have HO:=jz ho;have HRR:=jz hR;have HB:=jz hbad;clear ho hR hbad;go_wp2_with fail
    go_ret2
    exact⟨HO.out,.inr ⟨HB.out,rfl,HRR.out⟩⟩
theorem fT(r:Nat)(v:Value)(xs:List Int)(bad:Bool)(k:Nat)(w:World)(h:RD w r v xs bad)(hb:Bys xs)(hl:xs.length≤1000000)(hk1:1≤k)(hk8:k≤8):
    Calls Tryz.prog 121 #[.pointer (some ⟨r,0,none⟩),.int .i64 k] w fun e w'=>Off r w w' ∧
      ((bad = false ∧ k ≤ xs.length ∧ ∃ v', e = .returned (.int .u64 (beN (xs.take k))) ∧ RD w' r v' (xs.drop k) false) ∨
       ((bad=true∨xs.length<k)∧e = .returned (.int .u64 0)∧RD w' r (.slice none 0 0) [] true)):=by
  go_enter Tryz.func121,Tryz.ntmps121
  have HR:=jz h;clear h;go_wp2_with fail
  refine(DO r v xs bad k w HR.out hb hl hk1 hk8).mono ?_;rintro e w1 ⟨ho,⟨hbad,hkl,v',rfl,hR⟩|⟨hbad,rfl,hR⟩⟩
  all_goals
    have HO:=jz ho;have HRR:=jz hR;have HBD:=jz hbad;clear ho hR hbad;go_wp2_with fail
    go_ret
  · exact⟨HO.out,.inl ⟨HBD.out,hkl,v',rfl,HRR.out⟩⟩
  · exact⟨HO.out,.inr ⟨HBD.out,rfl,HRR.out⟩⟩
theorem B0(r:Nat)(v:Value)(xs:List Int)(bad:Bool)(n:Nat)(w:World)(h:RD w r v xs bad)(hl:xs.length≤1000000)(hn:n≤1000000):
    Calls Tryz.prog 145 #[.pointer (some ⟨r,0,none⟩),.int .i64 n] w fun e w'=>Off r w w' ∧
      ((bad = false ∧ n ≤ xs.length ∧ ∃ x v', e = .returned x ∧ Sn w' 1 x n (u8s (xs.take n)) ∧ RD w' r v' (xs.drop n) false) ∨
       ((bad=true∨xs.length<n)∧e = .returned (.slice none 0 0)∧RD w' r (.slice none 0 0) [] true)):=by
  go_enter Tryz.func145,Tryz.ntmps145
  have HR:=jz h;have hi1:(0:Int)≤n:=by omega
  have hi8:(n:Int)≤1000000:=by omega
  clear h;go_wp2_with fail
  refine(BZ r v xs bad n w HR.out hl).mono ?_;rintro e w1 ⟨ho,⟨rfl,hkl,x,v',rfl,hsx,hR⟩|⟨hbad,rfl,hR⟩⟩
  · have HO:=jz ho;have HRR:=jz hR;have HSX:=jz hsx;have HK:=jz hkl;clear ho hR hsx hkl;go_wp2_with fail
    refine(kQ x n (u8s (xs.take n)) w1 HSX.out (bS _) hn).mono ?_;rintro e w2 ⟨y,rfl,hsy,hb2⟩;go_wp2_with fail
    go_ret;exact⟨HO.trans (Off.of_below hb2),.inl ⟨HK.out,y,rfl,hsy,v',⟨HRR.out.1.keep hb2,HRR.out.2.below hb2⟩⟩⟩
  · have HO:=jz ho;have HRR:=jz hR;have HBD:=jz hbad;clear ho hR hbad;go_wp2_with fail
    go_ret;exact⟨HO.out,.inr ⟨HBD.out,rfl,HRR.out⟩⟩
theorem IZ(r:Nat)(v:Value)(xs:List Int)(bad:Bool)(w:World)(h:RD w r v xs bad):
  Calls Tryz.prog 146 #[.pointer (some ⟨r,0,none⟩)] w fun e w'=>e = .returned (.bool (!bad && decide (xs.length=0)))∧w=w':=by
 obtain⟨hB,hs⟩:=h;obtain⟨A,cap,rfl,hcap,_,_⟩:=id hs;have h0:=hB.cell 0;have h1:=hB.cell 1;simp only[List.getElem?_toArray,List.getElem?_cons_zero,List.getElem?_cons_succ] at h0 h1;clear hB hs;rcases jb bad with rfl|rfl
 ·go_enter Tryz.func146,Tryz.ntmps146
  go_wp2_with fail
  go_ret;exact⟨rfl,rfl⟩
 ·go_enter Tryz.func146,Tryz.ntmps146
  go_wp2_with fail
  go_ret;refine⟨?_,by trivial⟩;by_cases hx:xs=[]
  ·subst hx;rfl
  ·have:xs.length≠0:=fun e=>hx (List.eq_nil_of_length_eq_zero e)
   simp[hx,this]
def beB:Nat→Nat→List Int
 | 0,_=>[]
 | m+1,x=>((x/256 ^ m % 256:Nat):Int) :: beB m x
theorem bB:∀ k x,(beB k x).length=k
 | 0,_=>rfl
 | m+1,x=>by simp[beB,bB m x]
theorem gF:∀ k x,Bys (beB k x)
 | 0,_=>fun b h=>by simp[beB] at h
 | m+1,x=>fun b h=>by
  simp only[beB,List.mem_cons] at h;rcases h with rfl|h
  ·omega
  ·exact gF m x b h
def iZ(k m x:Nat):List Value:=List.replicate (k-m) (Value.int .u8 0)++u8s (beB m x)
theorem x0(k m x:Nat)(h:m<k):(iZ k m x).set (k-1-m) (Value.int .u8 ((x/256 ^ m % 256:Nat):Int))=iZ k (m+1) x:=by
 unfold iZ;rw[show k-m=(k-(m+1))+1 by omega,List.replicate_succ'];rw[List.append_assoc,List.set_append_right _ _ (by simp;omega)];rw[List.length_replicate,show k-1-m-(k-(m+1))=0 by omega];rfl
theorem tH(z:Value)(n:Nat):(madeCells #[z] n).toList=List.replicate n z:=by
 rw[List.eq_replicate_iff];refine⟨by simp[madeCells],fun b hb=>?_⟩;simp only[madeCells,Array.toList_map,Array.toList_range,List.mem_map] at hb;obtain⟨i,_,rfl⟩:=hb;simp[Nat.mod_one]
theorem DP{w:World}{base e n cap g:Nat}{xs:List Value}(h:w.ownsRow base e 1 (.slice (some ⟨g,0,none⟩) n cap) n xs){j:Nat}{u:Value}(hj:xs[j]? = some u):w.cell? ⟨g,j,none⟩=some u∧w.frozen? ⟨g,j,none⟩=false:=by
 obtain⟨hl,h|⟨g',cap',cur,hv,_,hh,_,_,_,htk⟩⟩:=h
 ·cases h.1
 ·injection hv with hv1 _ hv2
  injection hv1 with hv1
  injection hv1 with hv1 _ _
  subst hv1;have hB:Blk w g e cur:=hh;refine⟨?_,hB.frozen j⟩;rw[hB.cell];rw[← htk,List.getElem?_take] at hj;split at hj
  ·simpa using hj
  ·cases hj
theorem x1(k x:Nat)(w:World)(hk1:1≤k)(hk8:k≤8)(hx:x<256 ^ k):
  Calls Tryz.prog 134 #[.int .i64 k,.int .u64 x] w fun e w'=>∃ v,e = .returned (.tuple #[v,.bool true])∧w'.ownsRow w.heap.size 5 1 v k (u8s (beB k x))∧Below w.heap.size w w':=by
 have hi1:(1:Int)≤k:=by omega
 have hi8:(k:Int)≤8:=by omega
 have hx8:x<18446744073709551616:=by
  have h1:(256:Nat) ^ k≤256 ^ 8:=Nat.pow_le_pow_right (by omega) hk8;have e8:(256:Nat) ^ 8=18446744073709551616:=by decide
  omega
 obtain⟨i,hi,hz,hsi,hby⟩:=info_parts (P:=Tryz.prog) (e:=5) (z:=.int .u8 0) (size:=1) (bytes:=1) (by kernel_rfl);have HX:=jz hx;clear hx;have hsh:((x:Int)/2 ^ (8*k) != 0)=false:=by
  have e1:(256:Nat) ^ k=2 ^ (8*k):=by rw[Nat.pow_mul]
  have e2:((x:Int)/2 ^ (8*k))=((x/2 ^ (8*k):Nat):Int):=by simp
  rw[e2,Nat.div_eq_of_lt (by rw[← e1];exact HX.out)];rfl
 have hcells:(madeCells (Value.int .u8 0).cells (k*1)).toList=iZ k 0 x:=by
  show(madeCells #[Value.int .u8 0] (k*1)).toList=_;rw[tH];simp[iZ,beB,u8s]
 have HCE:=jz hcells;clear hcells;have hcase:k<8∨k=8:=by omega
 rcases hcase with hk|hk
 all_goals
  first|(have hki:(k:Int)<8:=by omega)|(have hki:¬(k:Int)<8:=by omega)
  clear hk;go_enter Tryz.func134,Tryz.ntmps134
  go_wp2_with (at_make;refine wpList_make_full _ rfl (.tmp 23) (.tmp 23) 78 rfl w.heap.size 5 i (.int .u8 0) 1 Tryz.underlying78 hi hz hsi .i64 .i64 (k:Int) (k:Int) k rfl rfl rfl rfl (by rw[hby];omega) (by unfold maxLen;omega) (Nat.le_refl _) ?_;intro w2 hown hg)
  rw[HCE.out] at hown;have hb2:Below w.heap.size w w2:=(Below.refl _ w).grown hg (Nat.le_refl _) (fun g e=>by cases e);clear hg hsh;go_loopw [7,1] (fun i y wr=>∃ m:Nat,m≤k∧i = .int .i64 ((k:Int)-1-m)∧y = .int .u64 (x/256 ^ m)∧wr.ownsRow w.heap.size 5 1 (.slice (some ⟨w.heap.size,0,none⟩) k k) k (iZ k m x)∧Below w.heap.size w wr) (fun i _ _=>(intOf i+1).toNat)
  case atStart=>exact⟨0,Nat.zero_le _,by simp,by simp,hown,hb2⟩
  case round=>
   obtain⟨m,hm,rfl,rfl,hownr,hbr⟩:=hrel;by_cases hlt:m<k
   ·have hst:=hownr.stored (k-1-m) (.int .u8 ((x/256 ^ m % 256:Nat):Int));rw[x0 k m x hlt] at hst;have ec:((x/256 ^ m % 256:Nat):Int)=(x:Int)/256 ^ m % 256:=by simp
    rw[ec] at hst;have hnr:(iZ k m x)[k-1-m]? = some (.int .u8 0):=by
     unfold iZ;rw[List.getElem?_append_left (by simp;omega)];rw[List.getElem?_replicate,if_pos (by omega)]
    obtain⟨hcc,hff⟩:=DP hownr hnr;have HST:=jz hst.1;have HBS:Hid (Below w.heap.size w (wr.setCell ⟨w.heap.size,k-1-m,none⟩ (.int .u8 ((x:Int)/256 ^ m % 256)))):=jz (hbr.grown hst.2 hbr.size (fun g e=>by cases e;exact Nat.le_refl _));have hi0:(0:Int)≤(k:Int)-1-m:=by omega
    have hi2:(k:Int)-1-m<k:=by omega
    clear hst ec hnr;go_wp2_with fail
    refine⟨⟨m+1,by omega,by go_num,?_,HST.out,HBS.out⟩,by simp[intOf];omega⟩;have hp:(0:Int)≤256 ^ m:=Int.pow_nonneg (by omega);rw[Int.pow_succ,Int.ediv_ediv_of_nonneg hp]
   ·obtain rfl:m=k:=by omega
    have hfin:iZ m m x=u8s (beB m x):=by simp[iZ]
    rw[hfin] at hownr;go_wp2_with fail
    go_ret2
    exact⟨_,rfl,hownr,hbr⟩
theorem gQ(k x:Nat)(w:World)(hk1:1≤k)(hk8:k≤8)(hx:x<256 ^ k):
  Calls Tryz.prog 103 #[.int .i64 k,.int .u64 x] w fun e w'=>∃ v,e = .returned v∧w'.ownsRow w.heap.size 5 1 v k (u8s (beB k x))∧Below w.heap.size w w':=by
 go_enter Tryz.func103,Tryz.ntmps103
 go_wp2_with fail
 refine(x1 k x w hk1 hk8 hx).mono ?_;rintro e w1 ⟨v,rfl,hown,hb⟩;go_wp2_with fail
 go_ret;exact⟨_,rfl,hown,hb⟩
structure Parts(w:World)(va:Value)(ps:List (Value×List Int)):Prop where
 row:Sn w 1 va ps.length (ps.map (·.1))
 part:∀ p∈ps,Sn w 1 p.1 p.2.length (u8s p.2)
theorem Parts.below{w w':World}{va:Value}{ps:List (Value×List Int)}(h:Parts w va ps)(hb:Below w.heap.size w w'):Parts w' va ps:=
 ⟨h.row.below hb,fun p hp=>(h.part p hp).below hb⟩
def fD(ps:List (Value×List Int)):Nat:=(ps.map (fun p=>p.2.length)).sum
theorem zW(ps:List (Value×List Int))(k:Nat)(h:k<ps.length):fD (ps.take (k+1))=fD (ps.take k)+ps[k].2.length:=by
 unfold fD;rw[List.take_succ_eq_append_getElem h,List.map_append,List.sum_append];simp only[List.map_cons,List.map_nil,List.sum_cons,List.sum_nil,Nat.add_zero]
theorem qN(ps:List (Value×List Int))(k:Nat):fD (ps.take k)≤fD ps:=by
 have:fD ps=fD (ps.take k)+fD (ps.drop k):=by
  unfold fD
  conv=>lhs;rw[← List.take_append_drop k ps]
  rw[List.map_append,List.sum_append]
 omega
def cat(ps:List (Value×List Int)):List Int:=ps.flatMap (·.2)
theorem x3(ps:List (Value×List Int))(k:Nat)(h:k<ps.length):cat (ps.take (k+1))=cat (ps.take k)++ps[k].2:=by
 unfold cat;rw[List.take_succ_eq_append_getElem h,List.flatMap_append];simp only[List.flatMap_cons,List.flatMap_nil,List.append_nil]
theorem qO(ps:List (Value×List Int)):(cat ps).length=fD ps:=by
 unfold cat fD;rw[List.length_flatMap]
theorem Parts.at{w:World}{A:Option Addr}{cap:Nat}{ps:List (Value×List Int)}(h:Parts w (.slice A ps.length cap) ps)(k:Nat)(hk:k<ps.length):
  ∃ b off A' c',A=some ⟨b,off,none⟩∧w.cell? ⟨b,off+k,none⟩=some (.slice A' ps[k].2.length c')∧Sn w 1 (.slice A' ps[k].2.length c') ps[k].2.length (u8s ps[k].2):=by
 obtain⟨A1,cap1,hv,_,hl,hx⟩:=h.row;injection hv with hA _ _
 subst hA;obtain⟨b,off,rfl,hc⟩:=hx (by omega);have hp:=h.part ps[k] (List.getElem_mem hk);obtain⟨A',c',e,_,_,_⟩:=id hp;have:=hc k ps[k].1 (by simp[hk]);rw[e] at this hp;exact⟨b,off,A',c',rfl,this,hp⟩
theorem tU(va:Value)(ps:List (Value×List Int))(w:World)(hp:Parts w va ps)(hn:ps.length≤1000)(ht:fD ps≤1000000):
  Calls Tryz.prog 102 #[va] w fun e w'=>∃ v,e = .returned v∧w'.ownsRow w.heap.size 5 1 v (fD ps) (u8s (cat ps))∧Below w.heap.size w w':=by
 obtain⟨A,cap,rfl,hcap,_,_⟩:=id hp.row;have HP:=jz hp;clear hp;obtain⟨i,hi,hz,hsi,hby⟩:=info_parts (P:=Tryz.prog) (e:=5) (z:=.int .u8 0) (size:=1) (bytes:=1) (by kernel_rfl);go_enter Tryz.func102,Tryz.ntmps102
 go_wp2_with fail
 go_loopw [11,3] (fun i n wr=>∃ k:Nat,k≤ps.length∧i = .int .i64 k∧n = .int .i64 (fD (ps.take k))∧wr=w) (fun i _ _=>ps.length-(intOf i).toNat)
 case atStart=>exact⟨0,Nat.zero_le _,rfl,rfl,rfl⟩
 case round=>
  obtain⟨k,hk,rfl,rfl,hw⟩:=hrel;rw[hw];clear hw;by_cases hlt:k<ps.length
  ·obtain⟨b,off,A',c',rfl,hc,_⟩:=HP.at k hlt;have hsn:=zW ps k hlt;have h1:=qN ps k;have h2:=qN ps (k+1);rw[hsn] at h2;have HSN:=jz hsn;obtain⟨m,hm⟩:=je (ps[k].2.length);obtain⟨y,hy⟩:=je (fD (ps.take k));rw[← hm] at hc h2 HSN;rw[← hy] at h1 h2 HSN ⊢;have hi0:(0:Int)≤k:=by omega
   have hi1:(k:Int)<ps.length:=by omega
   clear hm hy hsn;go_wp2_with fail
   refine⟨⟨k+1,by omega,by go_num,?_,by trivial⟩,by simp[intOf];omega⟩;rw[HSN.out];simp
  ·obtain rfl:k=ps.length:=by omega
   rw[List.take_length];obtain⟨T,hT⟩:=je (fD ps);have HT:=jz hT;rw[← hT] at ht ⊢;clear hT;go_wp2_with (at_make;refine wpList_make_own _ rfl (.const (.int .i64 0)) (.tmp 20) 78 rfl w.heap.size 5 i (.int .u8 0) 1 Tryz.underlying78 hi hz hsi .i64 .i64 (T:Int) T rfl rfl rfl (by rw[hby];omega) (by unfold maxLen;omega) (Nat.le_refl _) ?_;intro w2 hown hg)
   have hb2:Below w.heap.size w w2:=(Below.refl _ w).grown hg (Nat.le_refl _) (fun g e=>by cases e);clear hg;go_loopw [24,6] (fun i v wr=>∃ k:Nat,k≤ps.length∧i = .int .i64 k∧wr.ownsRow w.heap.size 5 1 v (cat (ps.take k)).length (u8s (cat (ps.take k)))∧Below w.heap.size w wr) (fun i _ _=>ps.length-(intOf i).toNat)
   case atStart=>exact⟨0,Nat.zero_le _,rfl,hown,hb2⟩
   case round=>
    obtain⟨k,hk,rfl,hownr,hbr⟩:=hrel;by_cases hlt:k<ps.length
    ·obtain⟨b,off,A',c',rfl,hc,hsx⟩:=(HP.below hbr).at k hlt;have hsn:=x3 ps k hlt;have hcl:=qO (ps.take (k+1));have h2:=qN ps (k+1);have HTO:=HT.out;rw[hsn] at hcl;have HSN:=jz hsn;obtain⟨x,hx⟩:=je (ps[k].2);obtain⟨y,hy⟩:=je (cat (ps.take k));rw[← hx] at hc hsx HSN hcl;rw[← hy] at hownr HSN hcl;have HSX:=jz hsx;have hyl:y.length+x.length≤1000000:=by
      rw[List.length_append] at hcl;omega
     have hszr:=hbr.size;have hi0:(0:Int)≤k:=by omega
     have hi1:(k:Int)<ps.length:=by omega
     clear hsx hx hy hsn hcl HTO;go_wp2_with (at_builtin;refine app pS (.tmp 28) (.tmp 29) rfl rfl rfl hownr rfl HSX.out (bS x) (by unfold maxLen;omega) (by omega) (by omega) ?_;intro v4 w4 hown4 hg4 _)
     have hb4:Below w.heap.size w w4:=hbr.grown hg4 (by omega) (fun g hg=>(hownr.lt g hg).1);refine⟨⟨k+1,by omega,by go_num,?_,hb4⟩,by simp[intOf];omega⟩;rw[HSN.out,List.length_append,eI];exact hown4
    ·obtain rfl:k=ps.length:=by omega
     rw[List.take_length] at hownr;go_wp2_with fail
     go_ret;refine⟨_,rfl,?_,hbr⟩;rw[HT.out,← qO];exact hownr
end
section
open Go.RowKit
def z64:Array Value:=(u8s (List.replicate 64 0)).toArray
def pad(l:List Int):List Int:=l++List.replicate (64-l.length) 0
theorem qP(l:List Int)(h:l.length≤64):(pad l).length=64:=by simp[pad];omega
theorem I0{l:List Int}(h:Bys l):Bys (pad l):=fun b hb=>by
 unfold pad at hb;rcases List.mem_append.1 hb with hb|hb
 ·exact h b hb
 ·have:=(List.mem_replicate.1 hb).2;omega
theorem cN:z64.size=64:=by simp[z64,u8s]
theorem qQ(cs:Array Value)(n:Nat)(hc:cs.size=n)(xs:List Value)(off:Nat)(h:off+xs.length≤n)(i:Nat):((xs.zipIdx off).foldl (fun(cs:Array Value) (x:Value×Nat)=>cs.setIfInBounds x.2 x.1) cs)[i]? = if off≤i∧i<off+xs.length then xs[i-off]? else cs[i]?:=by
 rw[i8,hc];by_cases h1:off≤i∧i<off+xs.length
 ·rw[if_pos ⟨h1.1,h1.2,by omega⟩,if_pos h1]
 ·rw[if_neg (fun h2=>h1 ⟨h2.1,h2.2.1⟩),if_neg h1]
theorem I1(l:List Int)(h:l.length≤64):((u8s l).zipIdx 0).foldl (fun(cs:Array Value) (x:Value×Nat)=>cs.setIfInBounds x.2 x.1) z64=(u8s (pad l)).toArray:=by
 apply Array.ext_getElem?;intro i;rw[qQ z64 64 cN (u8s l) 0 (by rw[aP];omega),aP,show(u8s (pad l)).toArray[i]? = (u8s (pad l))[i]? by simp];unfold pad;rw[eI];by_cases h1:i<l.length
 ·rw[if_pos ⟨Nat.zero_le _,by omega⟩,List.getElem?_append_left (by rw[aP];exact h1),Nat.sub_zero]
 ·rw[if_neg (by omega),List.getElem?_append_right (by rw[aP];omega),aP];unfold z64;simp only[u8s,List.map_replicate,List.getElem?_toArray,List.getElem?_replicate];by_cases h2:i<64
  ·rw[if_pos h2,if_pos (by omega)]
  ·rw[if_neg h2,if_neg (by omega)]
attribute [irreducible] z64 pad
theorem cK:∀ w,(zeroValue 144).run Tryz.prog w = .ok (.agg z64) w:=fun w=>by unfold z64;kernel_rfl
theorem x6(vb:Value)(l:List Int)(w:World)(hs:Sn w 1 vb l.length (u8s l))(hl:l.length≤64):
  Calls Tryz.prog 132 #[vb] w fun e w'=>e = .returned (.tuple #[.agg (u8s (pad l)).toArray,.bool true])∧Below w.heap.size w w':=by
 obtain⟨A,cap,rfl,hcap,_,_⟩:=id hs;have HS:=jz hs;have hl64:¬(64:Int)<l.length:=by omega
 have hpl:=qP l hl;have hup:(u8s (pad l)).length=64:=by rw[aP,hpl]
 have hu1:=bS l;clear hs;obtain⟨w1,hw1⟩:=je ((w.alloc (.cells z64 144)).alloc (.cells z64 144));have hB1:Blk w1 w.heap.size 144 z64:=by rw[hw1];exact(Blk.new w _ _).alloc _
 have hB2:Blk w1 (w.heap.size+1) 144 z64:=by rw[hw1];exact Blk.newAt _ _ _ _ (by simp)
 have hb1:Below w.heap.size w w1:=by rw[hw1];exact(by repeat (first|exact Below.refl _ _|assumption|refine bR ?_ _|refine Below.setCell ?_ (by first|exact Nat.le_refl _|assumption|omega|(simp <;> omega)) _|refine Below.alloc ?_ (by first|exact Nat.le_refl _|assumption|omega|(simp <;> omega)) _))
 have hs1:Sn w1 1 (.slice A l.length cap) l.length (u8s l):=by rw[hw1];exact(HS.alloc _).alloc _
 have hth:w1.there (w.heap.size+1) 0 l.length:=fun j hj=>⟨by
  rw[hB2.cell,Array.getElem?_eq_getElem (by rw[cN];omega)];rfl,hB2.frozen _⟩
 have hB2':=dQ (u8s l) 0 w1 z64 hB2;rw[I1 l hl] at hB2';have hB1':Blk (w1.setCells (w.heap.size+1) 0 (u8s l)) w.heap.size 144 z64:=(bA (by omega) _ _ _).trans hB1;have hb2:Below w.heap.size w (w1.setCells (w.heap.size+1) 0 (u8s l)):=hb1.trans (aO (by omega) _ _ _).1;have hr2:=hB2'.range;rw[jt] at hr2;have hz:z64.size=(u8s (pad l)).toArray.size:=by rw[cN];simp[hup]
 have HB1:=jz hB1';have HB2:=jz hb2;have HR2:=jz hr2;have HTH:=jz hth;have HS1:=jz hs1;clear hB1 hB2 hb1 hs1 hth hB2' hB1' hb2 hr2;have h1:=cS (pad l);subst hw1;go_enter Tryz.func132,Tryz.ntmps132
 go_wp2_with (first
  | (refine al 144 z64 rfl rfl cK ?_)
  | (refine cp (.tmp 9) (.tmp 10) rfl rfl rfl rfl Tryz.underlying78 (by kernel_rfl) HS1.out hl HTH.out hu1 ?_)
  | (refine ld 144 _ rfl rfl rfl HR2.out Tryz.underlying144 rfl (by rw[hup];kernel_rfl) ?_)
  | (refine bC 144 (.tmp 2) (.tmp 12) rfl rfl rfl rfl HB1.out (by simp only[js,hup];kernel_rfl) hz h1 ?_;intro w3 hB3 hb3 _ _))
 have hr3:=hB3.range;rw[jt] at hr3;refine bodyPost_ret (bI rfl _ rfl hr3 Tryz.underlying144 rfl (by rw[hup];kernel_rfl)) rfl ⟨rfl,HB2.trans hb3⟩
end
section
open Go.RowKit
attribute [local irreducible] wpQuiet wpAnyH
def kN(x:Nat):Nat:=if x % 2=1 then (x/2) ^^^ 2197175160 else x/2
def DQ(x:Nat):Nat:=kN (kN (kN (kN (kN (kN (kN (kN x)))))))
theorem gU{x:Nat}(h:x<4294967296):kN x<4294967296:=by
 unfold kN;split
 ·exact Nat.xor_lt_two_pow (n:=32) (by omega) (by omega)
 ·omega
theorem I2{x:Nat}(h:x<4294967296):DQ x<4294967296:=by
 unfold DQ;exact gU (gU (gU (gU (gU (gU (gU (gU h)))))))
def cG(x:Nat)(l:List Int):Nat:=l.foldl (fun x c=>DQ (x ^^^ c.toNat)) x
def bQ(l:List Int):Nat:=4294967295-cG 4294967295 l
theorem i9(l:List Int)(hb:Bys l):∀ x,x<4294967296→cG x l<4294967296:=by
 induction l with
 | nil=>intro x h;exact h
 | cons c l ih=>
  intro x h;have hc:=hb c (by simp);exact ih (fun b h=>hb b (by simp[h])) _ (I2 (Nat.xor_lt_two_pow (n:=32) (by omega) (by omega)))
theorem lX(x:Nat)(a b:List Int):cG x (a++b)=cG (cG x a) b:=by
 unfold cG;rw[List.foldl_append]
theorem oZ(x:Nat)(l:List Int)(k:Nat)(h:k<l.length):cG x (l.take (k+1))=DQ (cG x (l.take k) ^^^ l[k].toNat):=by
 rw[List.take_succ_eq_append_getElem h,lX];rfl
attribute [irreducible] cG
theorem E7(y:Nat)(hy:y<4294967296):4294967295 ^^^ y=4294967295-y:=by
 have h1:=BitVec.toNat_not (x:=BitVec.ofNat 32 y);have h2:(BitVec.allOnes 32 ^^^ BitVec.ofNat 32 y).toNat=(~~~ BitVec.ofNat 32 y).toNat:=by rw[BitVec.allOnes_xor]
 rw[BitVec.toNat_xor,h1,BitVec.toNat_allOnes,BitVec.toNat_ofNat,Nat.mod_eq_of_lt (by omega)] at h2;simpa using h2
theorem I3(x:Nat)(w:World)(hx:x<4294967296):
  Calls Tryz.prog 167 #[.int .u32 x] w fun e w'=>e = .returned (.int .u32 (kN x))∧w=w':=by
 have h1:bits .and .u32 (x:Int) 1=((x % 2:Nat):Int):=by
  have:=u32_and_nat x 1 hx (by omega);rw[Nat.and_one_is_mod] at this;exact this
 have h2:bits .xor .u32 ((x:Int)/2) 2197175160=(((x/2) ^^^ 2197175160:Nat):Int):=by
  have:=u32_xor_nat (x/2) 2197175160 (by omega) (by omega);simpa using this
 rcases jb ((x:Int) % 2 == 1) with t1|t1
 all_goals
  go_enter Tryz.func167,Tryz.ntmps167
  go_wp2_with fail
  go_ret
 ·have e:kN x=(x/2) ^^^ 2197175160:=by unfold kN;rw[if_pos (by simp at t1;omega)]
  rw[e];exact⟨rfl,rfl⟩
 ·have e:kN x=x/2:=by unfold kN;rw[if_neg (by simp at t1;omega)]
  rw[e];exact⟨by simp,rfl⟩
def kI:Nat→Nat→Nat
 | 0,x=>x
 | j+1,x=>kN (kI j x)
theorem qR{x:Nat}(h:x<4294967296):∀ j,kI j x<4294967296
 | 0=>h
 | j+1=>gU (qR h j)
theorem DS(x:Nat)(w:World)(hx:x<4294967296):
  Calls Tryz.prog 162 #[.int .u32 x] w fun e w'=>e = .returned (.int .u32 (DQ x))∧w=w':=by
 have HX:=jz hx;clear hx;go_enter Tryz.func162,Tryz.ntmps162
 go_wp2_with fail
 go_loopw [3,0] (fun i y wr=>∃ j:Nat,j≤8∧i = .int .i64 j∧y = .int .u32 (kI j x)∧wr=w) (fun i _ _=>8-(intOf i).toNat)
 case atStart=>exact⟨0,Nat.zero_le _,rfl,rfl,rfl⟩
 case round=>
  obtain⟨j,hj,rfl,rfl,hw⟩:=hrel;rw[hw];clear hw;by_cases hlt:j<8
  ·have hi1:(j:Int)<8:=by omega
   go_wp2_with fail
   refine(I3 (kI j x) w (qR HX.out j)).mono ?_;rintro e w1 ⟨rfl,hw1⟩;subst hw1;go_wp2_with fail
   exact⟨⟨j+1,by omega,by go_num,rfl,by trivial⟩,by simp[intOf];omega⟩
  ·obtain rfl:j=8:=by omega
   go_wp2_with fail
   go_ret;exact⟨rfl,rfl⟩
theorem I4(r x:Nat)(vb:Value)(l:List Int)(w:World)(hc:w.cell? ⟨r,0,none⟩=some (.int .u32 x))(hf:w.frozen? ⟨r,0,none⟩=false)(hs:Sn w 1 vb l.length (u8s l))(hb:Bys l)(hl:l.length<64)(hx:x<4294967296):
  Calls Tryz.prog 155 #[.pointer (some ⟨r,0,none⟩),vb] w fun e w'=>e = .returned (.tuple #[])∧w'=w.setCell ⟨r,0,none⟩ (.int .u32 (cG x l)):=by
 obtain⟨A,cap,rfl,hcap,_,_⟩:=id hs;have HS:=jz hs;have HB:=jz hb;have HX:=jz hx;have hl64:(l.length:Int)<64:=by omega
 clear hs hb hx;go_enter Tryz.func155,Tryz.ntmps155
 go_wp2_with fail
 go_loopw [18,4] (fun i y wr=>∃ j:Nat,j≤l.length∧i = .int .i64 j∧y = .int .u32 (cG x (l.take j))∧wr=w) (fun i _ _=>l.length-(intOf i).toNat)
 case atStart=>exact⟨0,Nat.zero_le _,rfl,by simp[cG],rfl⟩
 case round=>
  obtain⟨j,hj,rfl,rfl,hw⟩:=hrel;rw[hw];clear hw;by_cases hlt:j<l.length
  ·obtain⟨A',cap',hA,_,_,hcell⟩:=HS.out;injection hA with hA _ hcp
   subst hA hcp;obtain⟨b,off,rfl,hr⟩:=hcell (by omega);have hcj:=hr j _ (jI l j hlt);have hby:=HB.out l[j] (List.getElem_mem hlt);obtain⟨c,hcc⟩:∃ c:Nat,l[j]=c:=⟨l[j].toNat,by omega⟩;have hsn:=oZ x l j hlt;have hy2:=i9 (l.take j) (fun b hb=>HB.out b (List.mem_of_mem_take hb)) x HX.out;rw[hcc] at hcj hsn hby;obtain⟨y,hy⟩:=je (cG x (l.take j));rw[← hy] at hsn hy2 ⊢;have HSN:=jz hsn;have hxo:=u32_xor_nat y c hy2 (by omega);have HZ:Hid (y ^^^ c<4294967296):=jz (Nat.xor_lt_two_pow (n:=32) (by omega) (by omega));have hi0:(0:Int)≤j:=by omega
   have hi1:(j:Int)<l.length:=by omega
   clear hr hcell hsn hy hcc;go_wp2_with fail
   refine(DS (y ^^^ c) w HZ.out).mono ?_;rintro e w1 ⟨rfl,hw1⟩;subst hw1;go_wp2_with fail
   refine⟨⟨j+1,by omega,by go_num,?_,by trivial⟩,by simp[intOf];omega⟩;rw[HSN.out];simp
  ·obtain rfl:j=l.length:=by omega
   rw[List.take_length];obtain⟨y,hy⟩:=je (cG x l);rw[← hy];have HY:=jz hy;clear hy;go_wp2_with fail
   go_end0
   rw[HY.out];exact⟨rfl,rfl⟩
theorem vI(va:Value)(ps:List (Value×List Int))(w:World)(hp:Parts w va ps)(hn:ps.length≤1000)(hb:∀ p∈ps,Bys p.2)(hl:∀ p∈ps,p.2.length<64):
  Calls Tryz.prog 133 #[va] w fun e w'=>e = .returned (.int .u32 (bQ (cat ps)))∧Below w.heap.size w w':=by
 obtain⟨A,cap,rfl,hcap,_,_⟩:=id hp.row;have HP:=jz hp;have HB:=jz hb;have HLE:=jz hl;clear hp hb hl;go_enter Tryz.func133,Tryz.ntmps133
 go_wp2_with fail
 go_loopw [10] (fun i wr=>∃ k:Nat,k≤ps.length∧i = .int .i64 k∧wr.cell? ⟨w.heap.size,0,none⟩=some (.int .u32 (cG 4294967295 (cat (ps.take k))))∧wr.frozen? ⟨w.heap.size,0,none⟩=false∧Below w.heap.size w wr) (fun i _=>ps.length-(intOf i).toNat)
 case atStart=>
  refine⟨0,Nat.zero_le _,rfl,?_,?_,(by repeat (first|exact Below.refl _ _|assumption|refine bR ?_ _|refine Below.setCell ?_ (by first|exact Nat.le_refl _|assumption|omega|(simp <;> omega)) _|refine Below.alloc ?_ (by first|exact Nat.le_refl _|assumption|omega|(simp <;> omega)) _))⟩
  ·have e:cG 4294967295 (cat (ps.take 0))=4294967295:=by simp[cG,cat]
   rw[e];exact(Blk.new w 240 #[.int .u32 4294967295]).cell 0
  ·exact(Blk.new w 240 #[.int .u32 4294967295]).frozen 0
 case round=>
  obtain⟨k,hk,rfl,hcr,hfr,hbr⟩:=hrel;by_cases hlt:k<ps.length
  ·obtain⟨b,off,A',c',rfl,hc,hsx⟩:=(HP.below hbr).at k hlt;have hsn:=x3 ps k hlt;have hbx:=HB.out ps[k] (List.getElem_mem hlt);have hlx:=HLE.out ps[k] (List.getElem_mem hlt);have hbc:Bys (cat (ps.take k)):=fun b hb=>by
    unfold cat at hb;rw[List.mem_flatMap] at hb;obtain⟨p,hp,hb⟩:=hb;exact HB.out p (List.mem_of_mem_take hp) b hb
   have hlt2:=i9 _ hbc 4294967295 (by omega);have hap:cG 4294967295 (cat (ps.take (k+1)))=cG (cG 4294967295 (cat (ps.take k))) ps[k].2:=by rw[hsn,lX]
   obtain⟨x,hx⟩:=je (ps[k].2);obtain⟨y,hy⟩:=je (cG 4294967295 (cat (ps.take k)));rw[← hx] at hc hsx hap hbx hlx;rw[← hy] at hap hcr hlt2;have HAP:=jz hap;have HSX:=jz hsx;have HBX:=jz hbx;have HCR:=jz hcr;have HLT:=jz hlt2;have hi0:(0:Int)≤k:=by omega
   have hi1:(k:Int)<ps.length:=by omega
   clear hsx hx hy hsn hap hbx hcr hlt2 hbc;go_wp2_with fail
   refine(I4 w.heap.size y _ x wr HCR.out hfr HSX.out HBX.out hlx HLT.out).mono ?_;rintro e w2 ⟨rfl,hw2⟩;have hB2:Below w.heap.size w w2:=by rw[hw2];exact hbr.setCell (p:=⟨w.heap.size,0,none⟩) (Nat.le_refl _) _
   have hc2:w2.cell? ⟨w.heap.size,0,none⟩=some (.int .u32 (cG y x)):=by rw[hw2];exact World.cell?_setCell_same _ _ _ HCR.out
   have hf2:w2.frozen? ⟨w.heap.size,0,none⟩=false:=by rw[hw2,World.frozen?_setCell];exact hfr
   clear hw2;go_wp2_with fail
   refine⟨⟨k+1,by omega,by go_num,?_,hf2,hB2⟩,by simp[intOf];omega⟩;rw[HAP.out];exact hc2
  ·obtain rfl:k=ps.length:=by omega
   rw[List.take_length] at hcr;have hbc:Bys (cat ps):=fun b hb=>by
    unfold cat at hb;rw[List.mem_flatMap] at hb;obtain⟨p,hp,hb⟩:=hb;exact HB.out p hp b hb
   have hlt2:=i9 _ hbc 4294967295 (by omega);have hsum:bQ (cat ps)=4294967295-cG 4294967295 (cat ps):=rfl;obtain⟨y,hy⟩:=je (cG 4294967295 (cat ps));rw[← hy] at hcr hlt2 hsum;have HSUM:=jz hsum;clear hy hsum hbc;go_wp2_with fail
   go_ret;rw[HSUM.out];refine⟨?_,hbr⟩;have e1:bits .xor .u32 IntKind.u32.max (y:Int)=((4294967295-y:Nat):Int):=by
    rw[← E7 y hlt2];exact u32_xor_nat 4294967295 y (by omega) hlt2
   show Ending.returned (.int .u32 (bits .xor .u32 IntKind.u32.max (y:Int)))=_;rw[e1]
end
end Go.Proofs.YtombncedfleljaaGreat
