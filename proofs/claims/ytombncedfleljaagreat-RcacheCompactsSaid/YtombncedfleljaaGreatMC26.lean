import Derived.Test.YtombncedfleljaaGreatMC21
set_option linter.unusedSimpArgs false
set_option maxRecDepth 100000
set_option maxHeartbeats 40000000
namespace Go.Proofs.YtombncedfleljaaGreat
open Go.RowKit
attribute [local irreducible] wpQuiet wpAnyH
def Rb(c:Nat)(r r':RefD):Prop:=r'.steps≤r.steps+c∧r'.opn.length≤r.opn.length+c∧r'.plan.length≤r.plan.length+c
theorem Rb.mono{c c':Nat}{r r':RefD}(h:Rb c r r')(hc:c≤c'):Rb c' r r':=⟨by have:=h.1;omega,by have:=h.2.1;omega,by have:=h.2.2;omega⟩
theorem Rb.trans{a b:Nat}{r r' r'':RefD}(h:Rb a r r')(k:Rb b r' r''):Rb (a+b) r r'':=⟨by have:=h.1;have:=k.1;omega,by have:=h.2.1;have:=k.2.1;omega,by have:=h.2.2;have:=k.2.2;omega⟩
theorem Rb.refl(r:RefD):Rb 0 r r:=⟨by omega,by omega,by omega⟩
theorem jZ(r:RefD):Rb 1 r (bD r):=⟨by show r.steps+1≤_;omega,by show r.opn.length≤_;omega,by show r.plan.length≤_;omega⟩
theorem GJ(r:RefD)(a:Int)(s:List Int):Rb 1 r (eZ r a s):=by
 unfold eZ;split
 ·exact⟨by show r.steps≤_;omega,by show(r.opn++[_]).length≤_;simp,by show r.plan.length≤_;omega⟩
 ·exact(Rb.refl r).mono (by omega)
theorem rX(r:RefD)(cl:List Int):Rb 0 r (bH r cl):=⟨by show r.steps≤_;omega,by show 0≤_;omega,by show r.plan.length≤_;omega⟩
theorem rY(r:RefD)(a:Int)(s:List Int):Rb 2 r (aI r a s):=by
 unfold aI;split
 ·exact(Rb.refl r).mono (by omega)
 ·split
  ·exact((jZ r).trans (GJ _ a s)).trans (rX _ _)
  ·split
   ·exact(jZ r).mono (by omega)
   ·exact(jZ r).trans (GJ _ a s)
theorem qI(r:RefD):Rb 1 r (bL r):=by
 unfold bL;split
 ·exact(Rb.refl r).mono (by omega)
 ·split
  ·exact(jZ r).trans (rX _ _)
  ·split
   ·exact jZ r
   ·exact⟨(jZ r).1,by show 0≤_;omega,(jZ r).2.2⟩
theorem CR(r:RefD)(a:Int)(s:List Int):Rb 3 r (cX r a s):=by
 unfold cX;split
 ·exact(rY r a s).trans (qI _)
 ·exact(rY r a s).mono (by omega)
theorem y0:∀(L:List (List Int)) (r:RefD) (a:Int),Rb (2*L.length+1) r (dO r a L).1
 | [],r,a=>(qI r).mono (by simp)
 | s :: L,r,a=>by
  have h1:=rY r a s;unfold dO;split
  ·exact(h1.trans (y0 L _ _)).mono (by simp;omega)
  ·exact h1.mono (by simp;omega)
theorem CS(r:RefD)(f z:Int)(g:Nat)(l:List aW):Rb (2*l.length+1) r (bP r f z g l).1:=by
 unfold bP;split
 ·exact(Rb.refl r).mono (by omega)
 ·split
  ·exact(y0 _ _ _).mono (by simp)
  ·exact(Rb.refl r).mono (by omega)
theorem CU(r:RefD)(n:Int)(c:Bool)(cl:List Int)(v:Value):Rb 1 r (bE r n c cl v):=by
 unfold bE;split
 ·exact(Rb.refl r).mono (by omega)
 ·exact⟨by show r.steps≤_;omega,by show r.opn.length≤_;omega,by show(r.plan++[_]).length≤_;simp⟩
end Go.Proofs.YtombncedfleljaaGreat
