import Derived.Test.YtjjlaipkkdncfaaGreatDoorMV7
import Derived.Test.YtjjlaipkkdncfaaGreatDoorMV6
set_option linter.unusedSimpArgs false
set_option maxRecDepth 100000
set_option maxHeartbeats 40000000
namespace Go.Proofs.YtjjlaipkkdncfaaGreatDoor
open Go.Proofs.Tryz
open Go.RowKit
attribute [local irreducible] wpQuiet wpAnyH
abbrev Ans:=Option (Int×Option Int)
def bV:Ans->Value
 | none=>.nilIface
 | some (c,o)=>o0 c o
def eY:Ans->Int
 | none=>0
 | some (c,_)=>c
def fJ(d:DiskD)(a:Int):Ans:=
 if d.down then some (12,none) else if iJ d=2 then some (12,none) else if iJ d=1 then some (11,none) else if iR d a then none else some (15,some a)
def iU(d:DiskD):Ans:=if d.down then some (12,none) else if iJ d=2 then some (12,none) else if iJ d=1 then some (11,none) else none
theorem oC(d:DiskD)(a:Int):gD d a=bV (fJ d a):=by
 unfold gD fJ;split;· rfl
 split;· rfl
 split;· rfl
 split <;> rfl
theorem nJ(d:DiskD):mN d=bV (iU d):=by
 unfold mN iU;split;· rfl
 split;· rfl
 split <;> rfl
theorem cH(x:Int×Option Int):∃ t u,bV (some x) = .iface t u:=by
 obtain⟨c,o⟩:=x;cases o <;> exact⟨_,_,rfl⟩
theorem BL(o:Ans)(w:Wd):Wc 140 #[bV o] w (Rt w (.int .i64 (eY o))):=by
 cases o with
 | none=>exact L0 w
 | some x=>obtain⟨c,p⟩:=x;exact JC w c p
def cG(g:Nat)(q:Wl×Int):Wl:=rec g (q.1++beB 8 q.2.toNat)
theorem rP(g:Nat)(q:Wl×Int)(w:Wd)(hq:EntOk q)(hg:g<4294967296):
  Wc 180 #[.int .u32 g,.agg (aO q).toArray] w (Rt w (.tuple #[.agg (u8s (if bG q then cG g q else zsec)).toArray,.bool (bG q)])):=by
 cases J:bG q with
 | true=>
  have h2:0<=q.2/\q.2<=4611686018427387904:=by unfold bG at J;simpa using J
  have h:=t8 g q.2.toNat q w hq (by omega) (by omega) hg;rw[jP rfl];exact h
 | false=>
  rw[jQ (by simp)];have HZ:=jz oZ;have Z:Hid (z64.all (·.oneCell')=true):=jz (by rw[oZ];exact dL _);have a1:z64.size=64:=cT;have a0:Blk (w.alloc (.cells (aO q).toArray 26)) w.heap.size 26 (aO q).toArray:=Blk.new _ _ _;have hc:(w.alloc (.cells (aO q).toArray 26)).cell? ⟨w.heap.size,32,none⟩=some (.int .i64 q.2):=by
   rw[a0.cell 32];have hl:(u8s q.1).length=32:=by rw[aK,hq.dig.len]
   show(cS q.1 q.2).toArray[32]? = _;simp[cS,hl]
  obtain⟨E,hE⟩:=je ((aO q).toArray);rw[<- hE] at hc ⊢;clear hE a0;have a2:((w.alloc (.cells E 26)).alloc (.cells z64 195)).cell? ⟨w.heap.size,32,none⟩=some (.int .i64 q.2):=j9 ((ji _ _).alloc (ja _) _) hc;have R:Hid (Blk ((w.alloc (.cells E 26)).alloc (.cells z64 195)) (w.heap.size+1) 195 z64):=jz (Blk.newAt _ _ _ _ (by simp));have U:Hid (Bw w ((w.alloc (.cells E 26)).alloc (.cells z64 195))):=jz (((ji _ w).alloc (ja _) _).alloc (by simp) _);have V:Hid ((w.alloc (.cells E 26)).heap.size=w.heap.size+1):=jz (by simp);clear hc;obtain⟨x,hx⟩:=je q.2;rw[<- hx] at a2;have a3:x<0\/4611686018427387904<x:=by
   unfold bG at J;rw[<- hx] at J;by_cases h:x<0
   ·exact .inl h
   ·right
    have h0:0<=x:=by omega
    simp[h0] at J;omega
  clear hx J;rcases jb (decide (x<0)) with t1|t1
  ·go_enter func180,ntmps180
   go_wp2_with (first
    | (refine al 195 z64 rfl rfl dH ?_)
    | (refine bld 195 #[] rfl rfl rfl sV ?_)
    | (refine aN 195 (.tmp 4) (.tmp 14) rfl rfl (by first|rfl|(rw[V.out];rfl)|(simp only[World.size_alloc];rfl)) rfl R (by rw[a1];kernel_rfl) rfl Z ?_;intro w3 D I _ _;have K:=jz D;have O:=jz I;clear D I))
   have J:w3.rangeAt (w.heap.size+1) 0 (u8s zsec):=by have h:=K.range;rw[HZ.out,jt] at h;exact h
   exact bodyPost_ret (aD rfl _ (by first|rfl|(simp only[World.size_alloc];rfl)) J underlying195 rfl (by rw[aH gP];kernel_rfl)) rfl ⟨rfl,U.trans (O.mono (by omega))⟩
  ·have t2:decide ((4611686018427387904:Int)<x)=true:=by have:=of_decide_eq_false t1;simp;omega
   go_enter func180,ntmps180
   go_wp2_with (first
    | (refine al 195 z64 rfl rfl dH ?_)
    | (refine bld 195 #[] rfl rfl rfl sV ?_)
    | (refine aN 195 (.tmp 4) (.tmp 14) rfl rfl (by first|rfl|(rw[V.out];rfl)|(simp only[World.size_alloc];rfl)) rfl R (by rw[a1];kernel_rfl) rfl Z ?_;intro w3 D I _ _;have K:=jz D;have O:=jz I;clear D I))
   have J:w3.rangeAt (w.heap.size+1) 0 (u8s zsec):=by have h:=K.range;rw[HZ.out,jt] at h;exact h
   exact bodyPost_ret (aD rfl _ (by first|rfl|(simp only[World.size_alloc];rfl)) J underlying195 rfl (by rw[aH gP];kernel_rfl)) rfl ⟨rfl,U.trans (O.mono (by omega))⟩
end Go.Proofs.YtjjlaipkkdncfaaGreatDoor
