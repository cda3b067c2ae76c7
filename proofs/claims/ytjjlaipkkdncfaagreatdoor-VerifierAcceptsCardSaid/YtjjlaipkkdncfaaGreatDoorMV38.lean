import Derived.Test.YtjjlaipkkdncfaaGreatDoorMV36
import Derived.Test.YtjjlaipkkdncfaaGreatDoorMV35
set_option linter.unusedVariables false
set_option linter.unusedSimpArgs false
set_option maxRecDepth 100000
set_option maxHeartbeats 40000000
namespace Go.Proofs.YtjjlaipkkdncfaaGreatDoor
open Go.Proofs.Tryz
open Go.RowKit
theorem D3(key:Nat->Nat)(D:Nat)(nn:Nat->Nat)(b:List Nat):seR key D nn b=iH key D nn b:=rfl
theorem nA(x:Nat):∀ k,bR x k=dB k x
 | 0=>rfl
 | k+1=>by
  show(x/256 ^ k % 256) :: bR x k=(beB (k+1) x).map Int.toNat;rw[beB,List.map_cons,nA x k];rfl
theorem F8(l:List UInt8):(bI l).size=l.length:=rfl
theorem PS(l:List UInt8):bn (bI l)=l.map (·.toNat):=by unfold bn bI;rw[jt]
theorem PT(l:List UInt8):wdR (bI l)=fF l:=by unfold wdR fF;rw[F8,PS]
theorem I1(n:Nm):l6 (bI n.realm) (n.parts.map bI)=nmN n:=by
 unfold l6 jG nmN;rw[PT,List.length_map,List.flatMap_map];congr 2
theorem ST(a:AuD):vX (bI a.client.realm) (a.client.parts.map bI) a.time a.micro a.seq=auN a:=by
 unfold vX auN;rw[I1,nA,nA,nA]
end Go.Proofs.YtjjlaipkkdncfaaGreatDoor
