import Derived.Test.YtiaigidbcljblaaGreatDoorMB8
import Derived.Test.YtiaigidbcljblaaGreatDoorMB7
set_option linter.unusedSimpArgs false
set_option maxRecDepth 100000
set_option maxHeartbeats 40000000
namespace Go.Proofs.YtiaigidbcljblaaGreatDoor
open Go.Proofs.Tryz
open Go.RowKit
attribute [local irreducible] wpQuiet wpAnyH
abbrev Ans:=Option (Int×Option Int)
def bK:Ans->Value
 | none=>.nilIface
 | some (c,o)=>pQ c o
def cN:Ans->Int
 | none=>0
 | some (c,_)=>c
def fN(d:DiskD)(a:Int):Ans:=
 if d.down then some (12,none) else if i7 d=2 then some (12,none) else if i7 d=1 then some (11,none) else if jJ d a then none else some (15,some a)
def jX(d:DiskD):Ans:=if d.down then some (12,none) else if i7 d=2 then some (12,none) else if i7 d=1 then some (11,none) else none
theorem o9(d:DiskD)(a:Int):gW d a=bK (fN d a):=by
 unfold gW fN;split;· rfl
 split;· rfl
 split;· rfl
 split <;> rfl
theorem oA(d:DiskD):nC d=bK (jX d):=by
 unfold nC jX;split;· rfl
 split;· rfl
 split <;> rfl
theorem bU(x:Int×Option Int):∃ t u,bK (some x) = .iface t u:=by
 obtain⟨c,o⟩:=x;cases o <;> exact⟨_,_,rfl⟩
theorem nD(o:Ans)(w:Wd):Wc 34 #[bK o] w (Rt w (.int .i64 (cN o))):=by
 cases o with
 | none=>exact NY w
 | some x=>obtain⟨c,p⟩:=x;exact KF w c p
def cP(g:Nat)(q:Wl×Int):Wl:=rec g (q.1++beB 8 q.2.toNat)
theorem sD(g:Nat)(q:Wl×Int)(w:Wd)(hq:EntOk q)(hg:g<4294967296):
  Wc 289 #[.int .u32 g,.agg (aN q).toArray] w (Rt w (.tuple #[.agg (u8s (if cO q then cP g q else zsec)).toArray,.bool (cO q)])):=by
 cases I:cO q with
 | true=>
  have h2:0<=q.2/\q.2<=4611686018427387904:=by unfold cO at I;simpa using I
  have h:=uO g q.2.toNat q w hq (by omega) (by omega) hg;rw[jP rfl];exact h
 | false=>
  rw[jQ (by simp)];have HZ:=jz pP;have V:Hid (z64.all (·.oneCell')=true):=jz (by rw[pP];exact dI _);have a0:z64.size=64:=cS;have Z:Blk (w.alloc (.cells (aN q).toArray 172)) w.heap.size 172 (aN q).toArray:=Blk.new _ _ _;have hc:(w.alloc (.cells (aN q).toArray 172)).cell? ⟨w.heap.size,32,none⟩=some (.int .i64 q.2):=by
   rw[Z.cell 32];have hl:(u8s q.1).length=32:=by rw[aI,hq.dig.len]
   show(cR q.1 q.2).toArray[32]? = _;simp[cR,hl]
  obtain⟨E,hE⟩:=je ((aN q).toArray);rw[<- hE] at hc ⊢;clear hE Z;have a1:((w.alloc (.cells E 172)).alloc (.cells z64 243)).cell? ⟨w.heap.size,32,none⟩=some (.int .i64 q.2):=j9 ((ji _ _).alloc (ja _) _) hc;have O:Hid (Blk ((w.alloc (.cells E 172)).alloc (.cells z64 243)) (w.heap.size+1) 243 z64):=jz (Blk.newAt _ _ _ _ (by simp));have R:Hid (Bw w ((w.alloc (.cells E 172)).alloc (.cells z64 243))):=jz (((ji _ w).alloc (ja _) _).alloc (by simp) _);have U:Hid ((w.alloc (.cells E 172)).heap.size=w.heap.size+1):=jz (by simp);clear hc;obtain⟨x,hx⟩:=je q.2;rw[<- hx] at a1;have a2:x<0\/4611686018427387904<x:=by
   unfold cO at I;rw[<- hx] at I;by_cases h:x<0
   ·exact .inl h
   ·right
    have h0:0<=x:=by omega
    simp[h0] at I;omega
  clear hx I;rcases jb (decide (x<0)) with t1|t1
  ·go_enter func289,ntmps289
   go_wp2_with (first
    | (refine al 243 z64 rfl rfl dG ?_)
    | (refine bld 243 #[] rfl rfl rfl tI ?_)
    | (refine aO 243 (.tmp 4) (.tmp 14) rfl rfl (by first|rfl|(rw[U.out];rfl)|(simp only[World.size_alloc];rfl)) rfl O (by rw[a0];kernel_rfl) rfl V ?_;intro w3 j D _ _;have J:=jz j;have K:=jz D;clear j D))
   have I:w3.rangeAt (w.heap.size+1) 0 (u8s zsec):=by have h:=J.range;rw[HZ.out,jt] at h;exact h
   exact bodyPost_ret (aC rfl _ (by first|rfl|(simp only[World.size_alloc];rfl)) I underlying243 rfl (by rw[aF iJ];kernel_rfl)) rfl ⟨rfl,R.trans (K.mono (by omega))⟩
  ·have t2:decide ((4611686018427387904:Int)<x)=true:=by have:=of_decide_eq_false t1;simp;omega
   go_enter func289,ntmps289
   go_wp2_with (first
    | (refine al 243 z64 rfl rfl dG ?_)
    | (refine bld 243 #[] rfl rfl rfl tI ?_)
    | (refine aO 243 (.tmp 4) (.tmp 14) rfl rfl (by first|rfl|(rw[U.out];rfl)|(simp only[World.size_alloc];rfl)) rfl O (by rw[a0];kernel_rfl) rfl V ?_;intro w3 j D _ _;have J:=jz j;have K:=jz D;clear j D))
   have I:w3.rangeAt (w.heap.size+1) 0 (u8s zsec):=by have h:=J.range;rw[HZ.out,jt] at h;exact h
   exact bodyPost_ret (aC rfl _ (by first|rfl|(simp only[World.size_alloc];rfl)) I underlying243 rfl (by rw[aF iJ];kernel_rfl)) rfl ⟨rfl,R.trans (K.mono (by omega))⟩
end Go.Proofs.YtiaigidbcljblaaGreatDoor
