import Derived.Test.YtiaigidbcljblaaGreatDoorME2
import Derived.Laws.BitsAllLaws
set_option linter.unusedSimpArgs false
set_option maxRecDepth 100000
set_option maxHeartbeats 40000000
namespace Go.Proofs.YtiaigidbcljblaaGreatDoor
open Go.RowKit
attribute [local irreducible] wpQuiet wpAnyH
def crc1(x:Nat):Nat:=if x % 2=1 then (x/2) ^^^ 2197175160 else x/2
def crc8(x:Nat):Nat:=crc1 (crc1 (crc1 (crc1 (crc1 (crc1 (crc1 (crc1 x)))))))
theorem crc1_lt{x:Nat}(h:x<4294967296):crc1 x<4294967296:=by
 unfold crc1
 split
 ·exact Nat.xor_lt_two_pow (n:=32) (by omega) (by omega)
 ·omega
theorem crc8_lt{x:Nat}(h:x<4294967296):crc8 x<4294967296:=by
 unfold crc8
 exact crc1_lt (crc1_lt (crc1_lt (crc1_lt (crc1_lt (crc1_lt (crc1_lt (crc1_lt h)))))))
def crcRun(x:Nat)(l:List Int):Nat:=l.foldl (fun x c=>crc8 (x ^^^ c.toNat)) x
def crcSum(l:List Int):Nat:=4294967295-crcRun 4294967295 l
theorem crcRun_lt(l:List Int)(hb:Bys l):∀ x,x<4294967296→crcRun x l<4294967296:=by
 induction l with
 | nil=>intro x h;exact h
 | cons c l ih=>
  intro x h
  have hc:=hb c (by simp)
  exact ih (fun b h=>hb b (by simp[h])) _ (crc8_lt (Nat.xor_lt_two_pow (n:=32) (by omega) (by omega)))
theorem crcRun_append(x:Nat)(a b:List Int):crcRun x (a++b)=crcRun (crcRun x a) b:=by
 unfold crcRun
 rw[List.foldl_append]
theorem crcRun_snoc(x:Nat)(l:List Int)(k:Nat)(h:k<l.length):crcRun x (l.take (k+1))=crc8 (crcRun x (l.take k) ^^^ l[k].toNat):=by
 rw[List.take_succ_eq_append_getElem h,crcRun_append]
 rfl
attribute [irreducible] crcRun
theorem xor_ones(y:Nat)(hy:y<4294967296):4294967295 ^^^ y=4294967295-y:=by
 have h1:=BitVec.toNat_not (x:=BitVec.ofNat 32 y)
 have h2:(BitVec.allOnes 32 ^^^ BitVec.ofNat 32 y).toNat=(~~~ BitVec.ofNat 32 y).toNat:=by rw[BitVec.allOnes_xor]
 rw[BitVec.toNat_xor,h1,BitVec.toNat_allOnes,BitVec.toNat_ofNat,Nat.mod_eq_of_lt (by omega)] at h2
 simpa using h2
theorem crc_one(x:Nat)(w:World)(hx:x<4294967296):
  Calls Tryz.prog 346 #[.int .u32 x] w fun e w'=>e = .returned (.int .u32 (crc1 x))∧w=w':=by
 have h1:bits .and .u32 (x:Int) 1=((x % 2:Nat):Int):=by
  have:=u32_and_nat x 1 hx (by omega)
  rw[Nat.and_one_is_mod] at this
  exact this
 have h2:bits .xor .u32 ((x:Int)/2) 2197175160=(((x/2) ^^^ 2197175160:Nat):Int):=by
  have:=u32_xor_nat (x/2) 2197175160 (by omega) (by omega)
  simpa using this
 rcases Bool.eq_false_or_eq_true ((x:Int) % 2 == 1) with t1|t1
 all_goals
  go_enter Tryz.func346,Tryz.ntmps346
  go_wp2_with fail
  go_ret
 ·have e:crc1 x=(x/2) ^^^ 2197175160:=by unfold crc1;rw[if_pos (by simp at t1;omega)]
  rw[e]
  exact⟨rfl,rfl⟩
 ·have e:crc1 x=x/2:=by unfold crc1;rw[if_neg (by simp at t1;omega)]
  rw[e]
  exact⟨by simp,rfl⟩
def crcIt:Nat→Nat→Nat
 | 0,x=>x
 | j+1,x=>crc1 (crcIt j x)
theorem crcIt_lt{x:Nat}(h:x<4294967296):∀ j,crcIt j x<4294967296
 | 0=>h
 | j+1=>crc1_lt (crcIt_lt h j)
theorem crc_eight(x:Nat)(w:World)(hx:x<4294967296):
  Calls Tryz.prog 343 #[.int .u32 x] w fun e w'=>e = .returned (.int .u32 (crc8 x))∧w=w':=by
 have HX:=Lib.hid hx
 clear hx
 go_enter Tryz.func343,Tryz.ntmps343
 go_wp2_with fail
 go_loopw [3,0] (fun i y wr=>∃ j:Nat,j≤8∧i = .int .i64 j∧y = .int .u32 (crcIt j x)∧wr=w) (fun i _ _=>8-(intOf i).toNat)
 case atStart=>exact⟨0,Nat.zero_le _,rfl,rfl,rfl⟩
 case round=>
  obtain⟨j,hj,rfl,rfl,hw⟩:=hrel
  rw[hw]
  clear hw
  by_cases hlt:j<8
  ·have hi1:(j:Int)<8:=by omega
   go_wp2_with fail
   refine(crc_one (crcIt j x) w (crcIt_lt HX.out j)).mono ?_
   rintro e w1 ⟨rfl,hw1⟩
   subst hw1
   go_wp2_with fail
   exact⟨⟨j+1,by omega,by go_num,rfl,by trivial⟩,by simp[intOf];omega⟩
  ·obtain rfl:j=8:=by omega
   go_wp2_with fail
   go_ret
   exact⟨rfl,rfl⟩
theorem crc_add(r x:Nat)(vb:Value)(l:List Int)(w:World)(hc:w.cell? ⟨r,0,none⟩=some (.int .u32 x))(hf:w.frozen? ⟨r,0,none⟩=false)(hs:Sn w 1 vb l.length (u8s l))(hb:Bys l)(hl:l.length<64)(hx:x<4294967296):
  Calls Tryz.prog 339 #[.pointer (some ⟨r,0,none⟩),vb] w fun e w'=>e = .returned (.tuple #[])∧w'=w.setCell ⟨r,0,none⟩ (.int .u32 (crcRun x l)):=by
 obtain⟨A,cap,rfl,hcap,_,_⟩:=id hs
 have HS:=Lib.hid hs
 have HB:=Lib.hid hb
 have HX:=Lib.hid hx
 have hl64:(l.length:Int)<64:=by omega
 clear hs hb hx
 go_enter Tryz.func339,Tryz.ntmps339
 go_wp2_with fail
 go_loopw [18,4] (fun i y wr=>∃ j:Nat,j≤l.length∧i = .int .i64 j∧y = .int .u32 (crcRun x (l.take j))∧wr=w) (fun i _ _=>l.length-(intOf i).toNat)
 case atStart=>exact⟨0,Nat.zero_le _,rfl,by simp[crcRun],rfl⟩
 case round=>
  obtain⟨j,hj,rfl,rfl,hw⟩:=hrel
  rw[hw]
  clear hw
  by_cases hlt:j<l.length
  ·obtain⟨A',cap',hA,_,_,hcell⟩:=HS.out
   injection hA with hA _ hcp
   subst hA hcp
   obtain⟨b,off,rfl,hr⟩:=hcell (by omega)
   have hcj:=hr j _ (u8s_get l j hlt)
   have hby:=HB.out l[j] (List.getElem_mem hlt)
   obtain⟨c,hcc⟩:∃ c:Nat,l[j]=c:=⟨l[j].toNat,by omega⟩
   have hsn:=crcRun_snoc x l j hlt
   have hy2:=crcRun_lt (l.take j) (fun b hb=>HB.out b (List.mem_of_mem_take hb)) x HX.out
   rw[hcc] at hcj hsn hby
   obtain⟨y,hy⟩:∃ y,y=crcRun x (l.take j):=⟨_,rfl⟩
   rw[← hy] at hsn hy2 ⊢
   have HSN:=Lib.hid hsn
   have hxo:=u32_xor_nat y c hy2 (by omega)
   have HZ:Hid (y ^^^ c<4294967296):=Lib.hid (Nat.xor_lt_two_pow (n:=32) (by omega) (by omega))
   have hi0:(0:Int)≤j:=by omega
   have hi1:(j:Int)<l.length:=by omega
   clear hr hcell hsn hy hcc
   go_wp2_with fail
   refine(crc_eight (y ^^^ c) w HZ.out).mono ?_
   rintro e w1 ⟨rfl,hw1⟩
   subst hw1
   go_wp2_with fail
   refine⟨⟨j+1,by omega,by go_num,?_,by trivial⟩,by simp[intOf];omega⟩
   rw[HSN.out]
   simp
  ·obtain rfl:j=l.length:=by omega
   rw[List.take_length]
   obtain⟨y,hy⟩:∃ y,y=crcRun x l:=⟨_,rfl⟩
   rw[← hy]
   have HY:=Lib.hid hy
   clear hy
   go_wp2_with fail
   go_end0
   rw[HY.out]
   exact⟨rfl,rfl⟩
theorem crc_sum(va:Value)(ps:List (Value×List Int))(w:World)(hp:Parts w va ps)(hn:ps.length≤1000)(hb:∀ p∈ps,Bys p.2)(hl:∀ p∈ps,p.2.length<64):
  Calls Tryz.prog 331 #[va] w fun e w'=>e = .returned (.int .u32 (crcSum (cat ps)))∧Below w.heap.size w w':=by
 obtain⟨A,cap,rfl,hcap,_,_⟩:=id hp.row
 have HP:=Lib.hid hp
 have HB:=Lib.hid hb
 have HLE:=Lib.hid hl
 clear hp hb hl
 go_enter Tryz.func331,Tryz.ntmps331
 go_wp2_with fail
 go_loopw [10] (fun i wr=>∃ k:Nat,k≤ps.length∧i = .int .i64 k∧wr.cell? ⟨w.heap.size,0,none⟩=some (.int .u32 (crcRun 4294967295 (cat (ps.take k))))∧wr.frozen? ⟨w.heap.size,0,none⟩=false∧Below w.heap.size w wr) (fun i _=>ps.length-(intOf i).toNat)
 case atStart=>
  refine⟨0,Nat.zero_le _,rfl,?_,?_,(by repeat (first|exact Below.refl _ _|assumption|refine bdrewN ?_ _|refine Below.setCell ?_ (by first|exact Nat.le_refl _|assumption|omega|(simp <;> omega)) _|refine Below.alloc ?_ (by first|exact Nat.le_refl _|assumption|omega|(simp <;> omega)) _))⟩
  ·have e:crcRun 4294967295 (cat (ps.take 0))=4294967295:=by simp[crcRun,cat]
   rw[e]
   exact(Blk.new w 459 #[.int .u32 4294967295]).cell 0
  ·exact(Blk.new w 459 #[.int .u32 4294967295]).frozen 0
 case round=>
  obtain⟨k,hk,rfl,hcr,hfr,hbr⟩:=hrel
  by_cases hlt:k<ps.length
  ·obtain⟨b,off,A',c',rfl,hc,hsx⟩:=(HP.below hbr).at k hlt
   have hsn:=cat_snoc ps k hlt
   have hbx:=HB.out ps[k] (List.getElem_mem hlt)
   have hlx:=HLE.out ps[k] (List.getElem_mem hlt)
   have hbc:Bys (cat (ps.take k)):=fun b hb=>by
    unfold cat at hb
    rw[List.mem_flatMap] at hb
    obtain⟨p,hp,hb⟩:=hb
    exact HB.out p (List.mem_of_mem_take hp) b hb
   have hlt2:=crcRun_lt _ hbc 4294967295 (by omega)
   have hap:crcRun 4294967295 (cat (ps.take (k+1)))=crcRun (crcRun 4294967295 (cat (ps.take k))) ps[k].2:=by rw[hsn,crcRun_append]
   obtain⟨x,hx⟩:∃ x,x=ps[k].2:=⟨_,rfl⟩
   obtain⟨y,hy⟩:∃ y,y=crcRun 4294967295 (cat (ps.take k)):=⟨_,rfl⟩
   rw[← hx] at hc hsx hap hbx hlx
   rw[← hy] at hap hcr hlt2
   have HAP:=Lib.hid hap
   have HSX:=Lib.hid hsx
   have HBX:=Lib.hid hbx
   have HCR:=Lib.hid hcr
   have HLT:=Lib.hid hlt2
   have hi0:(0:Int)≤k:=by omega
   have hi1:(k:Int)<ps.length:=by omega
   clear hsx hx hy hsn hap hbx hcr hlt2 hbc
   go_wp2_with fail
   refine(crc_add w.heap.size y _ x wr HCR.out hfr HSX.out HBX.out hlx HLT.out).mono ?_
   rintro e w2 ⟨rfl,hw2⟩
   have hB2:Below w.heap.size w w2:=by rw[hw2];exact hbr.setCell (p:=⟨w.heap.size,0,none⟩) (Nat.le_refl _) _
   have hc2:w2.cell? ⟨w.heap.size,0,none⟩=some (.int .u32 (crcRun y x)):=by rw[hw2];exact World.cell?_setCell_same _ _ _ HCR.out
   have hf2:w2.frozen? ⟨w.heap.size,0,none⟩=false:=by rw[hw2,World.frozen?_setCell];exact hfr
   clear hw2
   go_wp2_with fail
   refine⟨⟨k+1,by omega,by go_num,?_,hf2,hB2⟩,by simp[intOf];omega⟩
   rw[HAP.out]
   exact hc2
  ·obtain rfl:k=ps.length:=by omega
   rw[List.take_length] at hcr
   have hbc:Bys (cat ps):=fun b hb=>by
    unfold cat at hb
    rw[List.mem_flatMap] at hb
    obtain⟨p,hp,hb⟩:=hb
    exact HB.out p hp b hb
   have hlt2:=crcRun_lt _ hbc 4294967295 (by omega)
   have hsum:crcSum (cat ps)=4294967295-crcRun 4294967295 (cat ps):=rfl
   obtain⟨y,hy⟩:∃ y,y=crcRun 4294967295 (cat ps):=⟨_,rfl⟩
   rw[← hy] at hcr hlt2 hsum
   have HSUM:=Lib.hid hsum
   clear hy hsum hbc
   go_wp2_with fail
   go_ret
   rw[HSUM.out]
   refine⟨?_,hbr⟩
   have e1:bits .xor .u32 IntKind.u32.max (y:Int)=((4294967295-y:Nat):Int):=by
    rw[← xor_ones y hlt2]
    exact u32_xor_nat 4294967295 y (by omega) hlt2
   show Ending.returned (.int .u32 (bits .xor .u32 IntKind.u32.max (y:Int)))=_
   rw[e1]
end Go.Proofs.YtiaigidbcljblaaGreatDoor
