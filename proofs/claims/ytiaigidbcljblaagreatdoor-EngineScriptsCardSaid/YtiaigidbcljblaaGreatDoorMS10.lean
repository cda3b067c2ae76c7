import Derived.Test.YtiaigidbcljblaaGreatDoorMS8
import Derived.Test.YtiaigidbcljblaaGreatDoorMS7
set_option linter.unusedSimpArgs false
set_option maxRecDepth 100000
set_option maxHeartbeats 40000000
namespace Go.Proofs.YtiaigidbcljblaaGreatDoor
open Go.Proofs.Tryz
open Go.RowKit
attribute [local irreducible] wpQuiet wpAnyH
abbrev Ans:=Option (Int×Option Int)
def bM:Ans->Value
 | none=>.nilIface
 | some (c,o)=>qK c o
def cR:Ans->Int
 | none=>0
 | some (c,_)=>c
def fQ(d:DiskD)(a:Int):Ans:=
 if d.down then some (12,none) else if jF d=2 then some (12,none) else if jF d=1 then some (11,none) else if kH d a then none else some (15,some a)
def kN(d:DiskD):Ans:=if d.down then some (12,none) else if jF d=2 then some (12,none) else if jF d=1 then some (11,none) else none
theorem pW(d:DiskD)(a:Int):gZ d a=bM (fQ d a):=by
 unfold gZ fQ;split;· rfl
 split;· rfl
 split;· rfl
 split <;> rfl
theorem oV(d:DiskD):nS d=bM (kN d):=by
 unfold nS kN;split;· rfl
 split;· rfl
 split <;> rfl
theorem bW(x:Int×Option Int):∃ t u,bM (some x) = .iface t u:=by
 obtain⟨c,o⟩:=x;cases o <;> exact⟨_,_,rfl⟩
theorem nU(o:Ans)(w:Wd):Wc 34 #[bM o] w (Rt w (.int .i64 (cR o))):=by
 cases o with
 | none=>exact O7 w
 | some x=>obtain⟨c,p⟩:=x;exact L0 w c p
def cT(g:Nat)(q:Wl×Int):Wl:=rec g (q.1++beB 8 q.2.toNat)
theorem sX(g:Nat)(q:Wl×Int)(w:Wd)(hq:EntOk q)(hg:g<4294967296):
  Wc 289 #[.int .u32 g,.agg (aO q).toArray] w (Rt w (.tuple #[.agg (u8s (if cS q then cT g q else zsec)).toArray,.bool (cS q)])):=by
 cases I:cS q with
 | true=>
  have h2:0<=q.2/\q.2<=4611686018427387904:=by unfold cS at I;simpa using I
  have h:=vP g q.2.toNat q w hq (by omega) (by omega) hg;rw[jP rfl];exact h
 | false=>
  rw[jQ (by simp)];have HZ:=jz qJ;have V:Hid (z64.all (·.oneCell')=true):=jz (by rw[qJ];exact dN _);have a0:z64.size=64:=cX;have Z:Blk (w.alloc (.cells (aO q).toArray 172)) w.heap.size 172 (aO q).toArray:=Blk.new _ _ _;have hc:(w.alloc (.cells (aO q).toArray 172)).cell? ⟨w.heap.size,32,none⟩=some (.int .i64 q.2):=by
   rw[Z.cell 32];have hl:(u8s q.1).length=32:=by rw[aJ,hq.dig.len]
   show(cW q.1 q.2).toArray[32]? = _;simp[cW,hl]
  obtain⟨E,hE⟩:=je ((aO q).toArray);rw[<- hE] at hc ⊢;clear hE Z;have a1:((w.alloc (.cells E 172)).alloc (.cells z64 243)).cell? ⟨w.heap.size,32,none⟩=some (.int .i64 q.2):=j9 ((ji _ _).alloc (ja _) _) hc;have O:Hid (Blk ((w.alloc (.cells E 172)).alloc (.cells z64 243)) (w.heap.size+1) 243 z64):=jz (Blk.newAt _ _ _ _ (by simp));have R:Hid (Bw w ((w.alloc (.cells E 172)).alloc (.cells z64 243))):=jz (((ji _ w).alloc (ja _) _).alloc (by simp) _);have U:Hid ((w.alloc (.cells E 172)).heap.size=w.heap.size+1):=jz (by simp);clear hc;obtain⟨x,hx⟩:=je q.2;rw[<- hx] at a1;have a2:x<0\/4611686018427387904<x:=by
   unfold cS at I;rw[<- hx] at I;by_cases h:x<0
   ·exact .inl h
   ·right
    have h0:0<=x:=by omega
    simp[h0] at I;omega
  clear hx I;rcases jb (decide (x<0)) with t1|t1
  ·go_enter func289,ntmps289
   go_wp2_with (first
    | (refine al 243 z64 rfl rfl dL ?_)
    | (refine bld 243 #[] rfl rfl rfl uJ ?_)
    | (refine aP 243 (.tmp 4) (.tmp 14) rfl rfl (by first|rfl|(rw[U.out];rfl)|(simp only[World.size_alloc];rfl)) rfl O (by rw[a0];kernel_rfl) rfl V ?_;intro w3 j D _ _;have J:=jz j;have K:=jz D;clear j D))
   have I:w3.rangeAt (w.heap.size+1) 0 (u8s zsec):=by have h:=J.range;rw[HZ.out,jt] at h;exact h
   exact bodyPost_ret (aC rfl _ (by first|rfl|(simp only[World.size_alloc];rfl)) I underlying243 rfl (by rw[aF iN];kernel_rfl)) rfl ⟨rfl,R.trans (K.mono (by omega))⟩
  ·have t2:decide ((4611686018427387904:Int)<x)=true:=by have:=of_decide_eq_false t1;simp;omega
   go_enter func289,ntmps289
   go_wp2_with (first
    | (refine al 243 z64 rfl rfl dL ?_)
    | (refine bld 243 #[] rfl rfl rfl uJ ?_)
    | (refine aP 243 (.tmp 4) (.tmp 14) rfl rfl (by first|rfl|(rw[U.out];rfl)|(simp only[World.size_alloc];rfl)) rfl O (by rw[a0];kernel_rfl) rfl V ?_;intro w3 j D _ _;have J:=jz j;have K:=jz D;clear j D))
   have I:w3.rangeAt (w.heap.size+1) 0 (u8s zsec):=by have h:=J.range;rw[HZ.out,jt] at h;exact h
   exact bodyPost_ret (aC rfl _ (by first|rfl|(simp only[World.size_alloc];rfl)) I underlying243 rfl (by rw[aF iN];kernel_rfl)) rfl ⟨rfl,R.trans (K.mono (by omega))⟩
end Go.Proofs.YtiaigidbcljblaaGreatDoor
