import Derived.Test.YtiaigidbcljblaaGreatDoorMS25
set_option linter.unusedVariables false
set_option linter.unusedSimpArgs false
set_option maxRecDepth 100000
set_option maxHeartbeats 40000000
namespace Go.Proofs.YtiaigidbcljblaaGreatDoor
open Go.Proofs.Tryz
open Go.RowKit
attribute [local irreducible] wpQuiet wpAnyH
def PC(A B:EL)(now:Int):Nat->List cL->Prop:=λ_ es=>bT (gD es) now=bT A now\/bT (gD es) now=bT B now
structure CL(S:EL)(now:Int)(N K:Nat)(d:DiskD)(C:CacheD):Prop where
 sa:∃ es,SA (PC S S now) N K d C.L es
 wl:WL C.E
 le:bT C.E now=bT S now
theorem CL.more{S:EL}{now:Int}{N K j:Nat}{d:DiskD}{C:CacheD}(h:CL S now N K d C)(D:K<=j):CL S now N j d C:=by
 obtain⟨x,h1⟩:=h.sa;exact⟨⟨x,h1.imp (λh=>h) D⟩,h.wl,h.le⟩
theorem CL.brk{S:EL}{now:Int}{N K:Nat}{d:DiskD}{C:CacheD}(h:CL S now N K d C):C.L.brk=false:=by
 obtain⟨j,h1⟩:=h.sa;exact h1.brk
theorem CL.disk{S:EL}{now:Int}{N K:Nat}{d d':DiskD}{C:CacheD}(h:CL S now N K d C)(hs:∀ P L j,SA P N K d L j->SA P N K d' L j):CL S now N K d' C:=by
 obtain⟨j,h1⟩:=h.sa;exact⟨⟨j,hs _ _ _ h1⟩,h.wl,h.le⟩
theorem SB.left{A B:EL}{now:Int}{N K:Nat}{d:DiskD}(h:SB (PC A A now) N K d):SB (PC A B now) N K d:=h.imp (λ_ _ h=>.inl (h.elim id id)) (ja _)
end Go.Proofs.YtiaigidbcljblaaGreatDoor
