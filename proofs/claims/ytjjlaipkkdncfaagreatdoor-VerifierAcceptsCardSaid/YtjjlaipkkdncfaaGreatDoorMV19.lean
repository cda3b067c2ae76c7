import Derived.Test.YtjjlaipkkdncfaaGreatDoorMV17
import Derived.Test.YtjjlaipkkdncfaaGreatDoorMV15
set_option linter.unusedSimpArgs false
set_option maxRecDepth 100000
set_option maxHeartbeats 40000000
namespace Go.Proofs.YtjjlaipkkdncfaaGreatDoor
open Go.Proofs.Tryz
section
set_option maxRecDepth 100000
open Go.RowKit
theorem V7:SlT prog 22 26 33 40:=SlT.mk' underlying22 (z:=.agg (cS (List.replicate 32 0) 0).toArray) (by kernel_rfl) rfl (by decide)
end
section
set_option maxRecDepth 100000
open Go.RowKit
attribute [local irreducible] wpQuiet
theorem xX{w:Wd}{b off:Nat}{p:Wl×Int}(K:w.rangeAt b off (aO p))(O:EntOk p):w.rangeAt b off (u8s p.1)/\w.cell? ⟨b,off+32,none⟩=some (.int .i64 p.2):=by
 have D:(u8s p.1).length=32:=by simp[u8s,O.dig.len]
 constructor
 ·intro j u J;refine K j u ?_;have I:=(List.getElem?_eq_some_iff.1 J).1;simp only[aO,cS];rw[jy I];exact J
 ·refine K 32 _ ?_;simp only[aO,cS];rw[jx (by omega),D];rfl
end
section
set_option maxRecDepth 100000
open Go.RowKit
attribute [local irreducible] wpQuiet wpAnyH
end
section
set_option maxRecDepth 100000
open Go.RowKit
attribute [local irreducible] gW cR
end
section
abbrev EL:=List (Wl×Int)
def WL(E:EL):Prop:=∃ f,Lists f E
theorem WL.nil:WL []:=⟨_,Lists.nil⟩
theorem WL.put{E:EL}(h:WL E){q:Wl×Int}(D:EntOk q):WL (cR E q).1:=by
 obtain⟨f,h⟩:=h;exact⟨_,(qR h D).1⟩
theorem WL.live{E:EL}(h:WL E)(now:Int):WL (bM E now):=by
 obtain⟨f,h⟩:=h;exact⟨_,h.live now⟩
theorem WL.of{l:EL}(h:∀ p∈l,EntOk p):WL (gW l):=⟨_,CM l h⟩
theorem WL.ok{E:EL}(h:WL E):∀ p∈E,EntOk p:=λp D=>by
 obtain⟨f,h⟩:=h;exact((h.mem p).1 D).1
def pF(E:EL)(d:Wl)(now:Int):Bool:=E.any λp=>decide (p.1=d) && decide (now<=p.2)
theorem Lists.hasq{F:Wl->Option Int}{W:EL}(h:Lists F W){d:Wl}(hd:DigOk d)(now:Int):pF W d now=((F d).isSome && decide (now<=(F d).getD 0)):=by
 unfold pF;cases hf:F d with
 | none=>
  rw[Option.isSome_none,Bool.false_and,List.any_eq_false];intro p D;have:=((h.mem p).1 D).2;simp only[Bool.and_eq_true,decide_eq_true_eq,not_and];rintro rfl;rw[hf] at this;cases this
 | some t=>
  simp only[Option.isSome_some,Option.getD_some,Bool.true_and];by_cases ht:now<=t
  ·rw[decide_eq_true ht,List.any_eq_true];exact⟨(d,t),(h.mem _).2 ⟨⟨hd,h.exp d t hd hf⟩,hf⟩,by simp[ht]⟩
  ·rw[decide_eq_false ht,List.any_eq_false];intro p D;have:=((h.mem p).1 D).2;simp only[Bool.and_eq_true,decide_eq_true_eq,not_and];rintro rfl;rw[hf] at this;injection this with this
   omega
theorem xY(E:EL)(now:Int):(bM E now).length<=E.length:=List.length_filter_le ..
end
end Go.Proofs.YtjjlaipkkdncfaaGreatDoor
