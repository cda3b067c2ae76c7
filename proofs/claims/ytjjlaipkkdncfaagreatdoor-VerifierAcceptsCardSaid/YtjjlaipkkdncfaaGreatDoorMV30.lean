import Derived.Test.YtjjlaipkkdncfaaGreatDoorMV27
set_option linter.unusedVariables false
set_option linter.unusedSimpArgs false
set_option maxRecDepth 100000
set_option maxHeartbeats 40000000
namespace Go.Proofs.YtjjlaipkkdncfaaGreatDoor
open Go.Proofs.Tryz
open Go.RowKit
attribute [local irreducible] wpQuiet wpAnyH
def PC(A B:EL)(now:Int):Nat->List b8->Prop:=λ_ es=>bM (gW es) now=bM A now\/bM (gW es) now=bM B now
structure CL(S:EL)(now:Int)(N K:Nat)(d:DiskD)(C:CacheD):Prop where
 sa:∃ es,SA (PC S S now) N K d C.L es
 wl:WL C.E
 le:bM C.E now=bM S now
theorem CL.more{S:EL}{now:Int}{N K D:Nat}{d:DiskD}{C:CacheD}(h:CL S now N K d C)(J:K<=D):CL S now N D d C:=by
 obtain⟨I,h1⟩:=h.sa;exact⟨⟨I,h1.imp (λh=>h) J⟩,h.wl,h.le⟩
theorem CL.brk{S:EL}{now:Int}{N K:Nat}{d:DiskD}{C:CacheD}(h:CL S now N K d C):C.L.brk=false:=by
 obtain⟨D,h1⟩:=h.sa;exact h1.brk
theorem CL.disk{S:EL}{now:Int}{N K:Nat}{d d':DiskD}{C:CacheD}(h:CL S now N K d C)(hs:∀ P L D,SA P N K d L D->SA P N K d' L D):CL S now N K d' C:=by
 obtain⟨D,h1⟩:=h.sa;exact⟨⟨D,hs _ _ _ h1⟩,h.wl,h.le⟩
theorem SB.left{A B:EL}{now:Int}{N K:Nat}{d:DiskD}(h:SB (PC A A now) N K d):SB (PC A B now) N K d:=h.imp (λ_ _ h=>.inl (h.elim id id)) (ja _)
end Go.Proofs.YtjjlaipkkdncfaaGreatDoor
