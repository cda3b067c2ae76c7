import Derived.Test.YtjjlaipkkdncfaaGreatDoorMV1
import Derived.BigQuiet
set_option linter.unusedSimpArgs false
set_option maxRecDepth 100000
set_option maxHeartbeats 40000000
namespace Go.Proofs.YtjjlaipkkdncfaaGreatDoor
open Go.Proofs.Tryz
open Go.RowKit
attribute [local irreducible] wpQuiet wpAnyH
def aW(d:DiskD):DiskD:={ d with steps:=d.steps+1,fl:=λk=>if k=((d.steps+1:Nat):Int) then false else d.fl k,cr:=λk=>if k=((d.steps+1:Nat):Int) then none else d.cr k,room:=max d.room (d.steps+1) }
def fZ(m:DiskM)(d:DiskD):DiskM:={ m with fv:=sH m.fv ((d.steps+1:Nat):Int),cv:=sH m.cv ((d.steps+1:Nat):Int) }
def iJ(d:DiskD):Int:=if (d.cr ((d.steps+1:Nat):Int)).isSome then 2 else if d.fl ((d.steps+1:Nat):Int) then 1 else 0
def eL(d:DiskD):Wl:=(d.cr ((d.steps+1:Nat):Int)).getD []
theorem VX:∀ w,(zeroValue 4).run prog w = .ok (.bool false) w:=λw=>by kernel_rfl
theorem VY:∀ w,(zeroValue 66).run prog w = .ok (.slice none 0 0) w:=λw=>by kernel_rfl
theorem xL(w:Wd)(m:DiskM)(d:DiskD)(h:DK w m d)(hs:d.steps+1<=100000):
  Wc 102 #[.pointer (some ⟨m.g,0,none⟩)] w λe w'=>∃ v,e = .returned (.tuple #[.int .i64 (iJ d),v])/\Sn w' 1 v (eL d).length (yU (eL d))/\(∀ b,v.ownBlock=some b->b ∉ aZ m/\b<w'.heap.size)/\DK w' (fZ m d) (aW d)/\DT w m w' (fZ m d):=by
 have H:=jz h;have f8:=h.blk.lt;have d4:=h.blk.cell 4;have g8:=h.blk.frozen 4;simp only[eX,jf,jh,jg] at d4;clear h;obtain⟨s,e2⟩:=je d.steps;have h6:s+1<=100000:=by omega
 rw[<- e2] at d4;have HS:=jz e2;have D:aI ((s+1:Nat):Int):=by unfold aI;omega
 obtain⟨I,a6⟩:=je (w.setCell ⟨m.g,4,none⟩ (.int .i64 ((s+1:Nat):Int)));have f6:Blk I m.g 90 #[m.sv,m.ov,.map (some m.bl),.bool d.down,.int .i64 ((s+1:Nat):Int),.map (some m.bf),.map (some m.bc)]:=by rw[a6];exact H.out.blk.set_ 4 _
 have d1:Hid (∀ k,k≠m.g->I.heap[k]? = w.heap[k]?):=jz (λk D=>by rw[a6];exact Below.heap_setCell w ⟨m.g,4,none⟩ _ k D);have c4:Hid (I.heap.size=w.heap.size):=jz (by rw[a6];simp);have e6:Hid (Fo (aZ m) w I):=jz (by rw[a6];exact Fo.refl.set m.g 4 (iB m) _);have Z:=jz (nE H.out.nd);have f2:Hid (UM I m.bf d.room m.fv):=jz (H.out.fl.of_block (d1 _ (λe=>Z.out.2.1 e.symm)));have f0:Hid (UM I m.bc d.room m.cv):=jz (H.out.cr.of_block (d1 _ (λe=>Z.out.2.2.1 e.symm)));have c7:=H.out.flv ((s+1:Nat):Int) D;have d2:=jz f6;have HK:Hid (∀ W:Wd,W.heap=I.heap->(∀ n,(Instr.lookup 86 (.map (some m.bf)) (.int .i64 ((s+1:Nat):Int)) false).run prog (W.drewN n) = .ok (.bool (d.fl ((s+1:Nat):Int))) (W.drewN n))/\(∀ n,(Instr.lookup 87 (.map (some m.bc)) (.int .i64 ((s+1:Nat):Int)) true).run prog (W.drewN n) = .ok (.tuple #[(m.cv ((s+1:Nat):Int)).getD (.slice none 0 0),.bool (m.cv ((s+1:Nat):Int)).isSome]) (W.drewN n))/\W.cell? ⟨m.g,5,none⟩=some (.map (some m.bf))/\W.cell? ⟨m.g,6,none⟩=some (.map (some m.bc))/\W.cell? ⟨m.g,4,none⟩=some (.int .i64 ((s+1:Nat):Int))):=jz (λW hW=>by
  have hB:Blk W m.g 90 _:=(congrArg (λh:Array _=>h[m.g]?) hW).trans d2.out
  refine⟨λn=>?_,λn=>?_,hB.cell 5,hB.cell 6,hB.cell 4⟩
  ·have h1:UM (W.drewN n) m.bf d.room m.fv:=f2.of_block (congrArg (λh:Array _=>h[m.bf]?) hW)
   have U:=UM.look1 underlying86 h1 (VX _) D
   rw[c7] at U
   exact U
  ·have h1:UM (W.drewN n) m.bc d.room m.cv:=f0.of_block (congrArg (λh:Array _=>h[m.bc]?) hW)
   exact UM.look underlying87 h1 (VY _) D)
 clear c7 f6;have g3:Hid (w.setCell ⟨m.g,4,none⟩ (.int .i64 ((s:Int)+1))=I):=jz a6.symm;clear a6 e2;have h7:(s:Int)<=100000:=by omega
 go_enter func102,ntmps102
 go_wp2_with fail
 rw[g3.out];obtain⟨fb,e0⟩:=je (d.fl ((s+1:Nat):Int));obtain⟨vo,e3⟩:=je (m.cv ((s+1:Nat):Int));obtain⟨K,hK⟩:∃ K:Int,K=((s+1:Nat):Int):=⟨_,rfl⟩;rw[<- e0,<- e3,<- hK] at HK;rw[<- hK] at D;have a0:=jz hK;clear hK;obtain⟨h5,e1,d5,d7,b2⟩:=HK.out I rfl;have f9:=jz e0;have f4:=jz e3;clear e0 e3 d4 g8
 go_quiet (fail)
 go_wp2_with fail
 obtain⟨w2,e4⟩:=je (I.drewN nq);have d0:Hid (w2.heap=I.heap/\w2.os=I.os/\w2.tape=I.tape/\w2.output=I.output):=jz (by rw[e4];exact⟨rfl,rfl,rfl,rfl⟩);rw[<- e4];clear e4 h5 e1 d5 d7 b2;obtain⟨_,e1,d5,d7,b2⟩:=HK.out w2 d0.out.1
 go_quiet (fail)
 go_wp2_with fail
 obtain⟨w3,e5⟩:=je (w2.drewN nq);have J:Hid (w3.heap=I.heap/\w3.os=I.os/\w3.tape=I.tape/\w3.output=I.output):=jz (by rw[e5];exact d0);rw[<- e5];clear e5 e1 d5 d7 b2 d0;have f3:Hid (UM w3.drew m.bf d.room m.fv):=jz (f2.of_block (congrArg (λh:Array _=>h[m.bf]?) J.out.1));obtain⟨V,a9,b1,a5⟩:∃ V,Hid (∀ ty,(Builtin.delete_ #[86,3] ty #[.map (some m.bf),.int .i64 K]).run prog w3.drew = .ok (.tuple #[]) V)/\Hid (UM V m.bf d.room (sH m.fv K))/\Hid (w3.drew.grownBy V (some m.bf)):=by
  obtain⟨V,h1,U,h3⟩:=UM.del_run underlying86 f3 D 0;exact⟨V,jz (λty=>h1),jz U,jz h3.grown⟩
 have b3:Hid (∀ k,k<w.heap.size->k≠m.bf->V.heap[k]? = I.heap[k]?):=jz (λk D hn=>(a5.block k (by have:=congrArg Array.size J.out.1;have:=c4.out;simp;omega) (λe=>hn (Option.some.inj e))).trans (congrArg (λh:Array _=>h[k]?) J.out.1));have a4:Hid (Blk V m.g 90 #[m.sv,m.ov,.map (some m.bl),.bool d.down,.int .i64 ((s+1:Nat):Int),.map (some m.bf),.map (some m.bc)]):=jz ((b3 m.g f8 Z.out.2.1).trans d2);have e7:Hid (V.cell? ⟨m.g,5,none⟩=some (.map (some m.bf))/\V.cell? ⟨m.g,4,none⟩=some (.int .i64 K)):=jz ⟨a4.cell 5,by rw[a0.out];exact a4.cell 4⟩;refine cC 9 (λwz=>wz.cell? ⟨m.g,5,none⟩=some (.map (some m.bf))/\wz.cell? ⟨m.g,4,none⟩=some (.int .i64 K)) (by kernel_rfl) (by kernel_rfl) (⟨(HK w3.drew J.out.1).2.2.1,(HK w3.drew J.out.1).2.2.2.2⟩) (λO=>?_);refine jM 0 (.tmp 0) (some 35) (.pointer (some ⟨m.g,0,none⟩)) O ?_;simp only[jq];refine jT 1 (.nilCheck (.tmp 35)) (some 36) (.pointer (some ⟨m.g,0,none⟩)) O ?_;simp only[jq];refine jT 2 (.fieldAddr 90 (.tmp 36) 5) (some 37) (.pointer (some ⟨m.g,5,none⟩)) O ?_;simp only[jq];refine jT 3 (.load 86 (.tmp 37)) (some 38) (.map (some m.bf)) (hy:=λo ho wX hX=>by have a3:=hX.1;unfold execOp;simp only[ho];go_simp) O ?_;simp only[jq];refine jM 4 (.tmp 0) (some 39) (.pointer (some ⟨m.g,0,none⟩)) O ?_;simp only[jq];refine jT 5 (.nilCheck (.tmp 39)) (some 40) (.pointer (some ⟨m.g,0,none⟩)) O ?_;simp only[jq];refine jT 6 (.fieldAddr 90 (.tmp 40) 4) (some 41) (.pointer (some ⟨m.g,4,none⟩)) O ?_;simp only[jq];refine jT 7 (.load 3 (.tmp 41)) (some 42) (.int .i64 K) (hy:=λo ho wX hX=>by have a3:=hX.2;unfold execOp;simp only[ho];go_simp) O ?_;simp only[jq];refine jW [8] ?_;refine VW 8 (.tmp 38) (.tmp 42) none V (vm:=.map (some m.bf)) (vk:=.int .i64 K) (by kernel_rfl) (by kernel_rfl) (by rfl) (by rfl) a9 e7 ?_ jN;simp only[jq];refine wpAnyH_done (by kernel_rfl) ?_ _;clear O;go_wp2_with fail
 have f1:Hid (UM V.drew m.bc d.room m.cv):=jz (f0.of_block (b3 m.bc H.out.cr.lt (λe=>Z.out.2.2.2.2.2.1 e.symm)));have f5:Hid (w.heap.size<=V.heap.size):=jz (by have h1:=a5.size;have U:=congrArg Array.size J.out.1;have h3:=c4.out;simp at h1;omega);have g0:Hid (V.drew.cell? ⟨m.g,6,none⟩=some (.map (some m.bc))/\V.drew.cell? ⟨m.g,4,none⟩=some (.int .i64 K)):=jz ⟨a4.cell 6,by rw[a0.out];exact a4.cell 4⟩;obtain⟨R,b0,c5,a2⟩:∃ R,Hid (∀ ty,(Builtin.delete_ #[87,3] ty #[.map (some m.bc),.int .i64 K]).run prog V.drew = .ok (.tuple #[]) R)/\Hid (UM R m.bc d.room (sH m.cv K))/\Hid (V.drew.grownBy R (some m.bc)):=by
  obtain⟨R,h1,U,h3⟩:=UM.del_run underlying87 f1 D 0;exact⟨R,jz (λty=>h1),jz U,jz h3.grown⟩
 have b7:Hid (∀ k,k<w.heap.size->k≠m.bf->k≠m.bc->R.heap[k]? = I.heap[k]?):=jz (λk D h1 U=>(a2.block k (by have:=f5.out;simp;omega) (λe=>U (Option.some.inj e))).trans (b3 k D h1));have a7:Hid (Blk R m.g 90 #[m.sv,m.ov,.map (some m.bl),.bool d.down,.int .i64 ((s+1:Nat):Int),.map (some m.bf),.map (some m.bc)]):=jz ((b7 m.g f8 Z.out.2.1 Z.out.2.2.1).trans d2);have e8:Hid (R.cell? ⟨m.g,6,none⟩=some (.map (some m.bc))/\R.cell? ⟨m.g,4,none⟩=some (.int .i64 K)):=jz ⟨a7.cell 6,by rw[a0.out];exact a7.cell 4⟩;refine cC 9 (λwz=>wz.cell? ⟨m.g,6,none⟩=some (.map (some m.bc))/\wz.cell? ⟨m.g,4,none⟩=some (.int .i64 K)) (by kernel_rfl) (by kernel_rfl) (g0) (λO=>?_);refine jM 0 (.tmp 0) (some 43) (.pointer (some ⟨m.g,0,none⟩)) O ?_;simp only[jq];refine jT 1 (.nilCheck (.tmp 43)) (some 44) (.pointer (some ⟨m.g,0,none⟩)) O ?_;simp only[jq];refine jT 2 (.fieldAddr 90 (.tmp 44) 6) (some 45) (.pointer (some ⟨m.g,6,none⟩)) O ?_;simp only[jq];refine jT 3 (.load 87 (.tmp 45)) (some 46) (.map (some m.bc)) (hy:=λo ho wX hX=>by have a3:=hX.1;unfold execOp;simp only[ho];go_simp) O ?_;simp only[jq];refine jM 4 (.tmp 0) (some 47) (.pointer (some ⟨m.g,0,none⟩)) O ?_;simp only[jq];refine jT 5 (.nilCheck (.tmp 47)) (some 48) (.pointer (some ⟨m.g,0,none⟩)) O ?_;simp only[jq];refine jT 6 (.fieldAddr 90 (.tmp 48) 4) (some 49) (.pointer (some ⟨m.g,4,none⟩)) O ?_;simp only[jq];refine jT 7 (.load 3 (.tmp 49)) (some 50) (.int .i64 K) (hy:=λo ho wX hX=>by have a3:=hX.2;unfold execOp;simp only[ho];go_simp) O ?_;simp only[jq];refine jW [8] ?_;refine VW 8 (.tmp 46) (.tmp 50) none R (vm:=.map (some m.bc)) (vk:=.int .i64 K) (by kernel_rfl) (by kernel_rfl) (by rfl) (by rfl) b0 e8 ?_ jN;simp only[jq];refine wpAnyH_done (by kernel_rfl) ?_ _;clear O;have d3:Hid (w.heap.size<=R.heap.size):=jz (by have h1:=a2.size;have U:=f5.out;simp at h1;omega);have a8:Hid (∀ k,k<w.heap.size->k≠m.g->k≠m.bf->k≠m.bc->R.heap[k]? = w.heap[k]?):=jz (λk D h0 h1 U=>(b7 k D h1 U).trans (d1 k h0));have c6:Hid (UM R m.bf d.room (sH m.fv K)):=jz (b1.of_block ((a2.block m.bf b1.lt (λe=>Z.out.2.2.2.2.2.1 (Option.some.inj e)))));have c2:Hid (DT w m R (fZ m d)):=jz ⟨rfl,e6.trans ⟨a2.os.trans (a5.os.trans J.out.2.1),a2.tape.trans (a5.tape.trans J.out.2.2.1),a2.output.trans (a5.output.trans J.out.2.2.2),by have h1:=d3.out;have U:=c4.out;omega,λk D hn=>b7.out k (by have:=c4.out;omega) (λe=>hn (by rw[e];exact sR m)) (λe=>hn (by rw[e];exact sS m))⟩ (λx hx=>.inl hx),λk D=>.inl D,λk v D=>.inl (by
  have D:(if k=((d.steps+1:Nat):Int) then none else m.cv k)=some v:=D
  split at D
  ·cases D
  ·exact D)⟩
 have c9:Hid (DK R (fZ m d) (aW d)):=jz (by
  have f7:K=((d.steps+1:Nat):Int):=by rw[a0.out,HS.out]
  refine H.out.re rfl [m.g,m.bf,m.bc] (λk D=>by
   simp only[jl,j8,or_false] at D
   rcases D with rfl|rfl|rfl
   ·exact iB m
   ·exact sR m
   ·exact sS m) (λk D hn=>by
   simp only[jl,j8,or_false,not_or] at hn
   exact a8 k D hn.1 hn.2.1 hn.2.2) d3 ?_ (aS H.out.sec λb hb=>a8.out b (H.out.sec.lt b hb).2 ?_ ?_ ?_) (aS H.out.opn λb hb=>a8.out b (H.out.opn.lt b hb).2 ?_ ?_ ?_) ((H.out.last.of_block (a8 m.bl H.out.last.lt (λe=>Z.out.1 e.symm) Z.out.2.2.2.1 Z.out.2.2.2.2.1)).mono (Nat.le_max_left _ _)) ?_ ?_ H.out.nd (λb hb=>.inl hb) (λk D=>?_) (λk D=>?_) ?_
  ·have h:=a7.out
   rw[HS.out] at h
   exact h
  ·exact(Z.out.2.2.2.2.2.2.1 b hb).1
  ·exact(Z.out.2.2.2.2.2.2.1 b hb).2.2.1
  ·exact(Z.out.2.2.2.2.2.2.1 b hb).2.2.2
  ·exact(Z.out.2.2.2.2.2.2.2.1 b hb).1
  ·exact(Z.out.2.2.2.2.2.2.2.1 b hb).2.2.1
  ·exact(Z.out.2.2.2.2.2.2.2.1 b hb).2.2.2
  ·have h:=c6.out;rw[f7] at h;exact h.mono (Nat.le_max_left _ _)
  ·have h:=c5.out;rw[f7] at h;exact h.mono (Nat.le_max_left _ _)
  ·show(sH m.fv _ k).getD (.bool false) = .bool (if k=_ then false else d.fl k)
   unfold sH
   by_cases e:k=((d.steps+1:Nat):Int)
   ·rw[jP e,jP e];rfl
   ·rw[jQ e,jQ e];exact H.out.flv k D
  ·show((if k=_ then none else d.cr k)=none/\sH m.cv _ k=none)\/((if k=_ then none else d.cr k)=d.cr k/\sH m.cv _ k=m.cv k)
   unfold sH
   by_cases e:k=((d.steps+1:Nat):Int)
   ·rw[jP e,jP e];exact .inl ⟨rfl,rfl⟩
   ·rw[jQ e,jQ e];exact .inr ⟨rfl,rfl⟩
  ·have ok:=H.out.ok
   exact⟨ok.sec,ok.opn,ok.few,jm ok.lo (Nat.le_max_left _ _),Nat.le_max_right _ _,by have h1:=ok.rm;have U:=HS.out;show max d.room (d.steps+1)<=100000;omega,λk cs h=>by
    have h:(if k=((d.steps+1:Nat):Int) then none else d.cr k)=some cs:=h
    split at h
    ·cases h
    ·exact ok.cl k cs h⟩)
 have b9:=jz (H.out.crv K D);have c3:Hid (iJ d=(if (d.cr K).isSome then 2 else if fb then 1 else 0)/\eL d=(d.cr K).getD []):=jz (by unfold iJ eL;rw[a0.out,f9.out,HS.out];exact⟨rfl,rfl⟩);clear c6 a8 b7 b3 c5 b1 a5 a2 a9 b0 HK;cases hcr:d.cr K with
 | none=>
  have h1:=b9.out;rw[hcr] at h1;have h1:m.cv K=none:=h1;have hv:vo=none:=by rw[f4.out,<- a0.out];exact h1
  subst hv;have a1:Hid (iJ d=(if fb then 1 else 0)/\eL d=[]):=jz (by have h:=c3.out;rw[hcr] at h;exact h);clear hcr h1 c3 b9;cases fb with
  | true=>
   go_wp2_with fail
   go_ret2
   exact⟨_,by rw[a1.out.1];rfl,by rw[a1.out.2];exact⟨none,0,rfl,ja _,rfl,λh=>by cases h⟩,(λb e=>by cases e),c9,c2⟩
  | false=>
   go_wp2_with fail
   go_ret2
   exact⟨_,by rw[a1.out.1];rfl,by rw[a1.out.2];exact⟨none,0,rfl,ja _,rfl,λh=>by cases h⟩,(λb e=>by cases e),c9,c2⟩
 | some cs=>
  have h1:=b9.out;rw[hcr] at h1;obtain⟨v,U,h3,h4⟩:=h1;have hv:vo=some v:=by rw[f4.out,<- a0.out];exact U
  subst hv;have a1:Hid (iJ d=2/\eL d=cs):=jz (by have h:=c3.out;rw[hcr] at h;exact h);have g1:Hid (Sn R 1 v cs.length (yU cs)):=jz (c2.fo.sn h3 (λb hb=>(h4 b hb).1));have g2:Hid (∀ b,v.ownBlock=some b->b ∉ aZ m/\b<R.heap.size):=jz (λb hb=>⟨(h4 b hb).1,jp (h4 b hb).2 d3⟩);clear hcr U h3 h4 c3 b9;go_wp2_with fail
  go_ret2
  exact⟨v,by rw[a1.out.1];rfl,by rw[a1.out.2];exact g1,g2,c9,c2⟩
def gC(m:DiskM):DiskM:={ m with ov:=.slice none 0 0 }
def EF(d:DiskD):DiskD:={ d with opn:=[] }
theorem n9{m:DiskM}:∀ k∈aZ (gC m),k∈aZ m:=by
 intro k D;simp only[aZ,gC,Value.ownBlock,Option.toList_none,List.append_nil,ju] at D ⊢;rcases D with h|h
 ·exact .inl h
 ·exact .inr (.inl h)
theorem BA{m:DiskM}(h:(aZ m).Nodup):(aZ (gC m)).Nodup:=by
 have e:aZ m=aZ (gC m)++m.ov.ownBlock.toList:=by simp[aZ,gC,Value.ownBlock]
 rw[e,List.nodup_append] at h;exact h.1
theorem tY(w:Wd)(m:DiskM)(d:DiskD)(h:DK w m d):
  Wc 104 #[.pointer (some ⟨m.g,0,none⟩)] w λe w'=>e = .returned (.tuple #[])/\DK w' (gC m) (EF d)/\DT w m w' (gC m):=by
 have H:=jz h;have O:=jz (nE H.out.nd);have a7:=h.blk.lt;have Z:=h.blk.cell 1;have a9:=h.blk.frozen 1;have a6:=h.blk.cell 2;simp only[eX,jf,jh,jg] at Z a6;obtain⟨A0,a8,a0,_⟩:=Sn.own h.opn;rw[a0] at Z;clear h;have a1:Hid (Blk (w.setCell ⟨m.g,1,none⟩ (.slice none 0 0)) m.g 90 (eX (gC m) (EF d))):=jz (H.out.blk.set_ 1 _);have a4:Hid (UM (w.setCell ⟨m.g,1,none⟩ (.slice none 0 0)) m.bl d.room (eJ d.opn)):=jz (H.out.last.of_block (Below.heap_setCell w ⟨m.g,1,none⟩ _ _ (λe=>O.out.1 e.symm)));obtain⟨K,U,a5,D⟩:∃ K,Hid (∀ ty,(Builtin.clear_ #[85] ty #[.map (some m.bl)]).run prog (w.setCell ⟨m.g,1,none⟩ (.slice none 0 0)) = .ok (.tuple #[]) K)/\Hid (UM K m.bl d.room (λ_=>none))/\Hid ((w.setCell ⟨m.g,1,none⟩ (.slice none 0 0)).grownBy K (some m.bl)):=by
  obtain⟨K,h1,h2,h3⟩:=UM.clear_run underlying85 a4 0;exact⟨K,jz (λty=>h1),jz h2,jz h3.grown⟩
 have I:Hid (∀ k,k<w.heap.size->k≠m.g->k≠m.bl->K.heap[k]? = w.heap[k]?):=jz (λk J h0 h1=>(D.block k (by simpa using J) (λe=>h1 (Option.some.inj e))).trans (Below.heap_setCell w ⟨m.g,1,none⟩ _ k h0));have V:Hid (w.heap.size<=K.heap.size):=jz (by have:=D.size;simpa using this);have a3:Hid (DT w m K (gC m)):=jz ⟨rfl,⟨D.os,D.tape,D.output,V,λk J R=>I.out k J (λe=>R (by rw[e];exact iB m)) (λe=>R (by rw[e];exact nD m))⟩,λk J=>.inl (n9 k J),λ_ _ h=>.inl h⟩;have a2:Hid (DK K (gC m) (EF d)):=jz (by
  refine H.out.re rfl [m.g,m.bl] (λk J=>by
   simp only[jl,j8,or_false] at J
   rcases J with rfl|rfl
   ·exact iB m
   ·exact nD m) (λk J R=>by
   simp only[jl,j8,or_false,not_or] at R
   exact I k J R.1 R.2) V ((D.block m.g (by simpa using a7) (λe=>O.out.1 (Option.some.inj e))).trans a1) (aS H.out.sec λb hb=>I.out b (H.out.sec.lt b hb).2 ?_ ?_) (World.ownsRow_nil _ _ _ _) ?_ (H.out.fl.of_block (I _ H.out.fl.lt (λe=>O.out.2.1 e.symm) (λe=>O.out.2.2.2.1 e.symm))) (H.out.cr.of_block (I _ H.out.cr.lt (λe=>O.out.2.2.1 e.symm) (λe=>O.out.2.2.2.2.1 e.symm))) (BA H.out.nd) (λb hb=>.inl (n9 b hb)) H.out.flv (λk J=>.inr ⟨rfl,rfl⟩) ?_
  ·exact(O.out.2.2.2.2.2.2.1 b hb).1
  ·exact(O.out.2.2.2.2.2.2.1 b hb).2.1
  ·show UM _ _ _ (eJ [])
   rw[tO]
   exact a5.out
  ·have ok:=H.out.ok
   exact⟨ok.sec,(λp hp=>by cases hp),ok.few,j0 _,ok.st,ok.rm,ok.cl⟩)
 have hrun:=U.out;clear a0;go_enter func104,ntmps104
 go_wp2_with fail
 exact bodyPost_end (results_none rfl _ _ _) rfl ⟨rfl,a2,a3⟩
def dX(d:DiskD):DiskD:={ d with down:=false }
theorem DK.down{w:Wd}{m:DiskM}{d:DiskD}(h:DK w m d)(b:Bool):DK (w.setCell ⟨m.g,3,none⟩ (.bool b)) m { d with down:=b }/\DT w m (w.setCell ⟨m.g,3,none⟩ (.bool b)) m:=by
 have D:=nE h.nd;have I:∀ k,k≠m.g->(w.setCell ⟨m.g,3,none⟩ (.bool b)).heap[k]? = w.heap[k]?:=λk J=>Below.heap_setCell w ⟨m.g,3,none⟩ _ k J
 refine⟨h.re rfl [m.g] (λk J=>by rw[List.mem_singleton] at J;rw[J];exact iB m) (λk _ D=>I k (by simpa using D)) (by simp) (h.blk.set_ 3 _) (aS h.sec λb hb=>I b (D.2.2.2.2.2.2.1 b hb).1) (aS h.opn λb hb=>I b (D.2.2.2.2.2.2.2.1 b hb).1) (h.last.of_block (I _ (λe=>D.1 e.symm))) (h.fl.of_block (I _ (λe=>D.2.1 e.symm))) (h.cr.of_block (I _ (λe=>D.2.2.1 e.symm))) h.nd (λb hb=>.inl hb) h.flv (λk J=>.inr ⟨rfl,rfl⟩) ⟨h.ok.sec,h.ok.opn,h.ok.few,h.ok.lo,h.ok.st,h.ok.rm,h.ok.cl⟩,⟨rfl,Fo.refl.set m.g 3 (iB m) _,λ_ h=>.inl h,λ_ _ h=>.inl h⟩⟩
theorem EG(w:Wd)(m:DiskM)(d:DiskD)(h:DK w m d):
  Wc 30 #[.pointer (some ⟨m.g,0,none⟩)] w λe w'=>e = .returned (.tuple #[])/\DK w' m (dX d)/\DT w m w' m:=by
 have H:=jz (h.down false);have D:=h.blk.cell 3;have I:=h.blk.frozen 3;simp only[eX,jf,jh,jg] at D;clear h;go_enter func30,ntmps30
 go_wp2_with fail
 exact bodyPost_end (results_none rfl _ _ _) rfl ⟨rfl,H.out.1,H.out.2⟩
def BB(m:DiskM)(v:Value):DiskM:={ m with ov:=v }
def BC(d:DiskD)(a:Int)(s:Wl):DiskD:={ d with opn:=d.opn++[(a,s)],room:=d.room+1 }
theorem wL(s:Wl)(n:Nat)(h:s.length=n):s=(List.range n).map (λi=>s.getD i 0):=by
 subst h;apply List.ext_getElem
 ·simp
 ·intro i h1 D;simp[jn,h1]
theorem L1(a:Int)(s:Wl)(hs:Sec s):prog.built 197 [(0,.int .i64 a),(1,.agg (u8s s).toArray)]=some (wrC (a,s)).toArray:=by
 rw[wL s 64 hs.1];generalize (λi=>s.getD i 0)=D
 kernel_rfl
theorem tWr:SlT prog 88 197 65 72:=SlT.mk' underlying88 (z:=.agg (wrC (0,List.replicate 64 0)).toArray) (by kernel_rfl) rfl (by decide)
theorem sW(p:Int×Wl):∀ u∈wrC p,u.oneCell'=true:=by
 intro u D;simp only[wrC,jl] at D;rcases D with rfl|D
 ·rfl
 ·exact cI _ u D
theorem BD{m:DiskM}{v:Value}{w:Wd}(I:v.ownBlock=m.ov.ownBlock\/∃ k,v.ownBlock=some k/\w.heap.size<=k):∀ k∈aZ (BB m v),k∈aZ m\/w.heap.size<=k:=by
 intro k D;simp only[aZ,BB,ju,Option.mem_toList] at D ⊢;rcases D with h|h|h
 ·exact .inl (.inl h)
 ·exact .inl (.inr (.inl h))
 ·rcases I with e|⟨q,e,J⟩
  ·rw[e] at h;exact .inl (.inr (.inr h))
  ·rw[e] at h;have:=Option.some.inj h;omega
theorem TW{m:DiskM}{v:Value}{B:Nat}(h:(aZ m).Nodup)(D:∀ k∈aZ m,k<B)(J:v.ownBlock=m.ov.ownBlock\/∃ k,v.ownBlock=some k/\B<=k):(aZ (BB m v)).Nodup:=by
 rcases J with e|⟨q,e,R⟩
 ·have:aZ (BB m v)=aZ m:=by simp[aZ,BB,e]
  rw[this];exact h
 ·have K:aZ m=aZ (gC m)++m.ov.ownBlock.toList:=by simp[aZ,gC,Value.ownBlock]
  have I:aZ (BB m v)=aZ (gC m)++[q]:=by
   show [m.g,m.bl,m.bf,m.bc]++(m.sv.ownBlock.toList++v.ownBlock.toList)=[m.g,m.bl,m.bf,m.bc]++(m.sv.ownBlock.toList++[])++[q];rw[e];simp
  rw[I,List.nodup_append];refine⟨BA h,by simp,λa ha b hb O=>?_⟩;rw[List.mem_singleton] at hb;have:=D a (n9 a ha);omega
theorem bN{w:Wd}{base e s n:Nat}{v:Value}{D:Wv}(h:w.ownsRow base e s v n D):∃ A cap,v = .slice A n cap/\Sn w s (.slice A n cap) n D/\∀ b off,A=some ⟨b,off,none⟩->base<=b/\b<w.heap.size:=by
 have hs:=Sn.own h;obtain⟨A,cap,rfl,_⟩:=id hs;exact⟨A,cap,rfl,hs,λb off e=>h.lt b (by rw[e];rfl)⟩
theorem L2(a:Int)(s:Wl)(w:Wd)(m:DiskM)(d:DiskD)(h:DK w m d)(ha:aI a)(hs:Sec s)(hr:d.room+1<=100000):
  Wc 159 #[.pointer (some ⟨m.g,0,none⟩),.int .i64 a,.agg (u8s s).toArray] w λe w'=>e = .returned (.bool (iR d a))/\∃ m',DK w' m' (if iR d a then BC d a s else d)/\DT w m w' m':=by
 have H:=jz h;have d0:=h.blk.lt;clear h;have e1:Bw w (w.alloc (.cells (u8s s).toArray 195)):=(ji _ _).alloc (ja _) _;have a8:=jz e1;have b2:=jz (λZ (hb:Bw w Z)=>AV a Z m d (H.out.keep hb));clear e1;cases hh:iR d a with
 | false=>
  have HH:Hid ((decide (0<=a) && decide (a<d.sec.length))=false):=jz hh;rw[HH.out] at b2;clear hh;go_enter func159,ntmps159
  go_wp2_with (go_at_call 154;refine(b2 _ a8).mono ?_;rintro e Z ⟨rfl,R⟩;rw[R];clear R)
  go_ret;exact⟨rfl,m,H.out.keep a8,DT.of_below a8⟩
 | true=>
  have e2:0<=a/\a<d.sec.length:=by unfold iR at hh;simpa using hh
  have HH:Hid ((decide (0<=a) && decide (a<d.sec.length))=true):=jz hh;rw[HH.out] at b2;clear hh;have HA:=jz ha;have a9:=jz hs;clear ha hs;obtain⟨A0,D,e3,f4,_⟩:=Sn.own H.out.opn;have c4:=jz e3;have HN:=jz (nE H.out.nd);have c3:Hid (d.opn.length<=d.room):=jz H.out.ok.lo;go_enter func159,ntmps159
  go_wp2_with (go_at_call 154;refine(b2 _ a8).mono ?_;rintro e Z ⟨rfl,R⟩;rw[R];clear R)
  obtain⟨Z,R⟩:=je (w.alloc (.cells (u8s s).toArray 195));have a1:Hid (DK Z m d):=jz (by rw[R];exact H.out.keep a8);have b7:Hid (Blk Z w.heap.size 195 (u8s s).toArray):=jz (by rw[R];exact Blk.new _ _ _);have b1:Hid (Bw w Z):=jz (by rw[R];exact a8);have f6:Hid (DT w m Z m):=jz (by rw[R];exact DT.of_below a8);rw[<- R];clear R e3;have HC:Hid (∀ W:Wd,W.heap[m.g]? = Z.heap[m.g]?->W.cell? ⟨m.g,2,none⟩=some (.map (some m.bl))/\W.cell? ⟨m.g,1,none⟩=some (.slice A0 d.opn.length D)/\Blk W m.g 90 (eX m d)):=jz (λW hW=>by
   have hB:Blk W m.g 90 (eX m d):=hW.trans a1.blk
   exact⟨hB.cell 2,by rw[<- c4.out];exact hB.cell 1,hB⟩)
  have f2:Hid (UM Z.drew m.bl d.room (eJ d.opn)):=jz a1.last;obtain⟨I,d7,d3,c5⟩:∃ I,Hid ((Instr.mapUpdate 85 (.map (some m.bl)) (.int .i64 a) (.int .i64 (d.opn.length:Int))).run prog Z.drew = .ok () I)/\Hid (UM I m.bl (d.room+1) (JA (eJ d.opn) a (.int .i64 (d.opn.length:Int))))/\Hid (Z.drew.grownBy I (some m.bl)):=by
   obtain⟨I,h1,h2,h3⟩:=UM.put_run underlying85 f2 HA (.int .i64 (d.opn.length:Int)) (by unfold maxLen;have:=c3.out;omega);exact⟨I,jz h1,jz h2,jz h3.grown⟩
  have e0:Hid (Z.heap.size<=I.heap.size):=jz c5.size;have c7:Hid (∀ k,k<Z.heap.size->k≠m.bl->I.heap[k]? = Z.heap[k]?):=jz (λk hk hn=>c5.block k hk (λe=>hn (Option.some.inj e)));have c9:Hid (I.heap[m.g]? = Z.heap[m.g]?):=jz (c7 m.g a1.blk.lt HN.out.1);have e8:Hid (Z.drew.cell? ⟨m.g,2,none⟩=some (.map (some m.bl))/\Z.drew.cell? ⟨m.g,1,none⟩=some (.slice A0 d.opn.length D)):=jz ⟨(HC Z.drew rfl).1,(HC Z.drew rfl).2.1⟩;have f0:Hid (I.cell? ⟨m.g,2,none⟩=some (.map (some m.bl))/\I.cell? ⟨m.g,1,none⟩=some (.slice A0 d.opn.length D)):=jz ⟨(HC I c9).1,(HC I c9).2.1⟩;refine cC 11 (λwz=>wz.cell? ⟨m.g,2,none⟩=some (.map (some m.bl))/\wz.cell? ⟨m.g,1,none⟩=some (.slice A0 d.opn.length D)) (by kernel_rfl) (by kernel_rfl) (e8) (λhH=>?_);refine jM 0 (.tmp 0) (some 11) (.pointer (some ⟨m.g,0,none⟩)) hH ?_;simp only[jq];refine jT 1 (.nilCheck (.tmp 11)) (some 12) (.pointer (some ⟨m.g,0,none⟩)) hH ?_;simp only[jq];refine jT 2 (.fieldAddr 90 (.tmp 12) 2) (some 13) (.pointer (some ⟨m.g,2,none⟩)) hH ?_;simp only[jq];refine jT 3 (.load 85 (.tmp 13)) (some 14) (.map (some m.bl)) (hy:=λo ho wX hX=>by have b0:=hX.1;unfold execOp;simp only[ho];go_simp) hH ?_;simp only[jq];refine jM 4 (.tmp 1) (some 15) (.int .i64 a) hH ?_;simp only[jq];refine jM 5 (.tmp 0) (some 16) (.pointer (some ⟨m.g,0,none⟩)) hH ?_;simp only[jq];refine jT 6 (.nilCheck (.tmp 16)) (some 17) (.pointer (some ⟨m.g,0,none⟩)) hH ?_;simp only[jq];refine jT 7 (.fieldAddr 90 (.tmp 17) 1) (some 18) (.pointer (some ⟨m.g,1,none⟩)) hH ?_;simp only[jq];refine jT 8 (.load 88 (.tmp 18)) (some 19) (.slice A0 d.opn.length D) (hy:=λo ho wX hX=>by have b0:=hX.2;unfold execOp;simp only[ho];go_simp) hH ?_;simp only[jq];refine jT 9 (.call { callee:=Callee.builtin Builtin.len,args:=#[.tmp 19],argTypes:=#[88] }) (some 20) (.int .i64 (d.opn.length:Int)) hH ?_;simp only[jq];refine jW [10] ?_;refine WP 10 (.tmp 14) (.tmp 15) (.tmp 20) none I (by kernel_rfl) (by kernel_rfl) (by rfl) (by rfl) (by rfl) d7 f0 ?_ jN;simp only[jq];refine wpAnyH_done (by kernel_rfl) ?_ _;clear hH;go_wp2_with fail
  have f7:m.g<w.heap.size:=d0;have K:Hid (Blk I w.heap.size 195 (u8s s).toArray):=jz ((c7 _ b7.lt (λe=>by have:=H.out.last.lt;omega)).trans b7);have e6:Hid (I.drew.cell? ⟨m.g,1,none⟩=some (.slice A0 d.opn.length D)):=jz (HC I.drew c9).2.1;have e7:Hid ((I.alloc (.cells (wrC (a,s)).toArray 197)).drew.cell? ⟨m.g,1,none⟩=some (.slice A0 d.opn.length D)):=jz (HC ((I.alloc (.cells (wrC (a,s)).toArray 197)).drew) ((Below.heap_alloc I _ m.g (by have h1:=e0.out;have h2:=a1.blk.lt;omega)).trans c9)).2.1;have d2:Hid (I.drew.ownsRow 0 197 65 (.slice A0 d.opn.length D) d.opn.length (d.opn.flatMap wrC)):=jz (by
   have h:=aS (w':=I.drew) a1.opn (λb hb=>c7.out b (a1.opn.lt b hb).2 (HN.out.2.2.2.2.2.2.2.1 b hb).2.1)
   rw[c4.out] at h
   exact h)
  have f1:Hid ((prog.info? 195).map (·.size)=some (u8s s).length):=jz (by rw[aH a9.out];kernel_rfl);have d1:Hid (∀(v4:Value) (U:Wd),U.ownsRow 0 197 65 v4 (d.opn.length+1) (d.opn.flatMap wrC++wrC (a,s))->(I.drew.alloc (.cells (wrC (a,s)).toArray 197)).grownBy U (Value.slice A0 d.opn.length D).ownBlock->(v4.ownBlock=(Value.slice A0 d.opn.length D).ownBlock\/v4.ownBlock=some (I.drew.alloc (.cells (wrC (a,s)).toArray 197)).heap.size)->Blk U m.g 90 (eX m d)/\Blk U w.heap.size 195 (u8s s).toArray/\DK (U.setCell ⟨m.g,1,none⟩ v4) (BB m v4) (BC d a s)/\DT w m (U.setCell ⟨m.g,1,none⟩ v4) (BB m v4)):=jz (λv4 U J b3 O=>by
   rw[<- c4.out] at b3 O
   have f9:w.heap.size<Z.heap.size:=b7.lt
   have g0:=e0.out
   have f5:=b3.size
   have e5:(I.drew.alloc (.cells (wrC (a,s)).toArray 197)).heap.size=I.heap.size+1:=by simp
   rw[e5] at f5 O
   have d5:∀ k,m.ov.ownBlock=some k->k<w.heap.size:=λk hk=>(H.out.opn.lt k hk).2
   have d4:∀ k,k<I.heap.size->m.ov.ownBlock≠some k->U.heap[k]? = I.heap[k]?:=λk hk hn=>(b3.block k (by rw[e5];omega) (λe=>hn e.symm)).trans (Below.heap_alloc I.drew _ k hk)
   have b4:∀ k,k<w.heap.size->k≠m.bl->m.ov.ownBlock≠some k->U.heap[k]? = w.heap[k]?:=λk hk h1 h2=>(d4 k (by omega) h2).trans ((c7 k (by omega) h1).trans (b1.block k hk))
   have hN:=HN.out
   have a0:Blk U m.g 90 (eX m d):=(b4 m.g d0 hN.1 (λe=>(hN.2.2.2.2.2.2.2.1 m.g e).1 rfl)).trans H.out.blk
   have a2:Blk U w.heap.size 195 (u8s s).toArray:=(d4 _ (by omega) (λe=>by have:=d5 _ e;omega)).trans K.out
   have a7:v4.ownBlock=m.ov.ownBlock\/∃ k,v4.ownBlock=some k/\w.heap.size<=k:=by
    rcases O with e|e
    ·exact .inl e
    ·exact .inr ⟨_,e,by omega⟩
   have b5:∀ k,k≠m.g->(U.setCell ⟨m.g,1,none⟩ v4).heap[k]? = U.heap[k]?:=λk hk=>Below.heap_setCell U ⟨m.g,1,none⟩ v4 k hk
   have e4:∀ b,v4.ownBlock=some b->b≠m.g:=λb hb=>by
    rcases a7 with e|⟨q,e,hq⟩
    ·exact(hN.2.2.2.2.2.2.2.1 b (by rw[<- e];exact hb)).1
    ·rw[hb] at e;have:=Option.some.inj e;omega
   have f8:(U.setCell ⟨m.g,1,none⟩ v4).heap.size=U.heap.size:=by simp
   refine⟨a0,a2,?_,rfl,⟨b3.os.trans (c5.os.trans b1.os),b3.tape.trans (c5.tape.trans b1.tape),b3.output.trans (c5.output.trans b1.output),by omega,λk hk hn=>?_⟩,BD a7,λ_ _ h=>.inl h⟩
   ·refine H.out.re rfl ([m.g,m.bl]++m.ov.ownBlock.toList) (λk hk=>by
     simp only[ju,jl,j8,or_false,Option.mem_toList] at hk
     rcases hk with (rfl|rfl)|hk
     ·exact iB m
     ·exact nD m
     ·exact sU hk) (λk hk hn=>by
     simp only[ju,jl,j8,or_false,not_or,Option.mem_toList] at hn
     exact(b5 k hn.1.1).trans (b4 k hk hn.1.2 hn.2)) (by omega) (a0.set_ 1 _) (aS H.out.sec λb hb=>?_) ?_ ?_ ?_ ?_ (TW H.out.nd H.out.foot_lt a7) (BD a7) H.out.flv (λk hk=>.inr ⟨rfl,rfl⟩) ?_
    ·exact(b5 b (hN.2.2.2.2.2.2.1 b hb).1).trans (b4 b (H.out.sec.lt b hb).2 (hN.2.2.2.2.2.2.1 b hb).2.1 (hN.2.2.2.2.2.2.2.2 b hb))
    ·show(U.setCell ⟨m.g,1,none⟩ v4).ownsRow 0 _ 65 v4 (d.opn++[(a,s)]).length ((d.opn++[(a,s)]).flatMap wrC)
     rw[jj,List.flatMap_append,List.flatMap_singleton]
     exact aS J (λb hb=>b5 b (e4 b hb))
    ·show UM _ m.bl (d.room+1) (eJ (d.opn++[(a,s)]))
     rw[rJ]
     exact d3.of_block ((b5 m.bl (λe=>hN.1 e.symm)).trans (d4 m.bl d3.lt (λe=>(hN.2.2.2.2.2.2.2.1 m.bl e).2.1 rfl)))
    ·exact(H.out.fl.of_block ((b5 m.bf (λe=>hN.2.1 e.symm)).trans (b4 m.bf H.out.fl.lt (λe=>hN.2.2.2.1 e.symm) (λe=>(hN.2.2.2.2.2.2.2.1 m.bf e).2.2.1 rfl)))).mono (Nat.le_succ _)
    ·exact(H.out.cr.of_block ((b5 m.bc (λe=>hN.2.2.1 e.symm)).trans (b4 m.bc H.out.cr.lt (λe=>hN.2.2.2.2.1 e.symm) (λe=>(hN.2.2.2.2.2.2.2.1 m.bc e).2.2.2 rfl)))).mono (Nat.le_succ _)
    ·have ok:=H.out.ok
     refine⟨ok.sec,λp hp=>?_,ok.few,by have:=ok.lo;simp[BC];omega,Nat.le_succ_of_le ok.st,hr,ok.cl⟩
     have hp:p∈d.opn++[(a,s)]:=hp
     rw[ju,List.mem_singleton] at hp
     rcases hp with hp|rfl
     ·exact ok.opn p hp
     ·exact⟨e2.1,e2.2,a9⟩
   ·exact(b5 k (λe=>hn (by rw[e];exact iB m))).trans (b4 k hk (λe=>hn (by rw[e];exact nD m)) (λe=>hn (sU e))))
  refine cC 13 (λwz=>Blk wz w.heap.size 195 (u8s s).toArray) (by kernel_rfl) (by kernel_rfl) (K) (λhH=>?_);refine jM 0 (.tmp 0) (some 21) (.pointer (some ⟨m.g,0,none⟩)) hH ?_;simp only[jq];refine jM 1 (.tmp 0) (some 22) (.pointer (some ⟨m.g,0,none⟩)) hH ?_;simp only[jq];refine jT 2 (.nilCheck (.tmp 22)) (some 23) (.pointer (some ⟨m.g,0,none⟩)) hH ?_;simp only[jq];refine jT 3 (.fieldAddr 90 (.tmp 23) 1) (some 24) (.pointer (some ⟨m.g,1,none⟩)) hH ?_;simp only[jq];refine jM 5 (.tmp 1) (some 26) (.int .i64 a) hH ?_;simp only[jq];refine jL 6 195 (.tmp 5) (some 27) (cs:=u8s s) (λ_ hX=>by have h:=Blk.range hX;rw[jt] at h;exact h) underlying195 rfl f1 hH ?_;simp only[jq];refine QE 7 197 #[(0,Operand.tmp 26),(1,Operand.tmp 27)] (some 28) (vs:=[(0,.int .i64 a),(1,.agg (u8s s).toArray)]) (cells:=(wrC (a,s)).toArray) (by kernel_rfl) (by kernel_rfl) (by kernel_rfl) (by kernel_rfl) (by kernel_rfl) (λ_ _ _ h=>h) (by rfl) (L1 a s a9) hH ?_;simp only[jq];refine jW [4,8] ?_;refine jS 4 (.load 88 (.tmp 24)) (some 25) (.slice A0 d.opn.length D) (I.drew) (hrun:=λo ho=>by have b0:=e6.out;unfold execOp;simp only[ho];go_simp) K ?_ (LW 8 tWr (.tmp 28) (some 29) (by kernel_rfl) (by kernel_rfl) (cs:=wrC (a,s)) (by rfl) (fI (p:=(a,s)) a9) (by decide) ((Below.heap_alloc I.drew _ _ K.lt).trans K) ?_ jN)
  ·simp only[jq];refine jW [8] ?_;refine LW 8 tWr (.tmp 28) (some 29) (by kernel_rfl) (by kernel_rfl) (cs:=wrC (a,s)) (by rfl) (fI (p:=(a,s)) a9) (by decide) ((Below.heap_alloc I.drew _ _ K.lt).trans K) ?_ jN;simp only[jq];refine jW [9] ?_;refine TH 9 tWr (.tmp 25) (.tmp 29) (some 30) (by kernel_rfl) (by kernel_rfl) (by rfl) (World.ownsRow.alloc d2 _) (by rfl) (Sn.new I.drew (wrC (a,s)).toArray 197 65 1 (by rw[js,fI (p:=(a,s)) a9.out])) (sW (a,s)) (by unfold maxLen;have:=c3.out;omega) (by have:=c3.out;omega) (j0 _) (λv4 U J V O=>?_) jN;rw[jt] at J;obtain⟨a4,q4,a7,_,_⟩:=bN J;subst a7;obtain⟨a0,a2,a5,a6⟩:=d1.out _ U J V O;refine⟨a2,λf3=>?_⟩;simp only[jq];refine jT 10 (.nilCheck (.tmp 21)) (some 31) (.pointer (some ⟨m.g,0,none⟩)) (by assumption) ?_;simp only[jq];refine jT 11 (.fieldAddr 90 (.tmp 31) 1) (some 32) (.pointer (some ⟨m.g,1,none⟩)) (by assumption) ?_;simp only[jq];refine jW [12] ?_;have a3:=a0.cell 1;have c6:=a0.frozen 1;simp only[eX,jf,jh,jg,c4.out] at a3;refine yW 12 (Op.store 88 (Operand.tmp 32) (Operand.tmp 30)) none (U.setCell ⟨m.g,1,none⟩ (.slice a4 (d.opn.length+1) q4)) (by kernel_rfl) (by kernel_rfl) (λo ho=>by unfold execOp;simp only[ho];go_simp) ((Below.heap_setCell U ⟨m.g,1,none⟩ _ _ (λe=>Nat.ne_of_gt d0 e)).trans a2) ?_ jN;simp only[jq];refine wpAnyH_done (by kernel_rfl) ?_ _;have b9:=jz a5;have c2:=jz a6;clear J V O a0 a2 a5 a6 a3 c6;go_wp2_with fail
   go_ret;exact⟨rfl,_,b9,c2⟩
  ·simp only[jq];refine jW [4] ?_;refine jS 4 (.load 88 (.tmp 24)) (some 25) (.slice A0 d.opn.length D) ((I.alloc (.cells (wrC (a,s)).toArray 197)).drew) (hrun:=λo ho=>by have b0:=e7.out;unfold execOp;simp only[ho];go_simp) ((Below.heap_alloc I.drew _ _ K.lt).trans K) ?_ jN;simp only[jq];refine jW [9] ?_;refine TH 9 tWr (.tmp 25) (.tmp 29) (some 30) (by kernel_rfl) (by kernel_rfl) (by rfl) (World.ownsRow.alloc d2 _) (by rfl) (Sn.new I.drew (wrC (a,s)).toArray 197 65 1 (by rw[js,fI (p:=(a,s)) a9.out])) (sW (a,s)) (by unfold maxLen;have:=c3.out;omega) (by have:=c3.out;omega) (j0 _) (λv4 U J V O=>?_) jN;rw[jt] at J;obtain⟨a4,q4,a7,_,_⟩:=bN J;subst a7;obtain⟨a0,a2,a5,a6⟩:=d1.out _ U J V O;refine⟨a2,λf3=>?_⟩;simp only[jq];refine jT 10 (.nilCheck (.tmp 21)) (some 31) (.pointer (some ⟨m.g,0,none⟩)) (by assumption) ?_;simp only[jq];refine jT 11 (.fieldAddr 90 (.tmp 31) 1) (some 32) (.pointer (some ⟨m.g,1,none⟩)) (by assumption) ?_;simp only[jq];refine jW [12] ?_;have a3:=a0.cell 1;have c6:=a0.frozen 1;simp only[eX,jf,jh,jg,c4.out] at a3;refine yW 12 (Op.store 88 (Operand.tmp 32) (Operand.tmp 30)) none (U.setCell ⟨m.g,1,none⟩ (.slice a4 (d.opn.length+1) q4)) (by kernel_rfl) (by kernel_rfl) (λo ho=>by unfold execOp;simp only[ho];go_simp) ((Below.heap_setCell U ⟨m.g,1,none⟩ _ _ (λe=>Nat.ne_of_gt d0 e)).trans a2) ?_ jN;simp only[jq];refine wpAnyH_done (by kernel_rfl) ?_ _;have b9:=jz a5;have c2:=jz a6;clear J V O a0 a2 a5 a6 a3 c6;go_wp2_with fail
   go_ret;exact⟨rfl,_,b9,c2⟩
def tZ(c:Int):Nat:=(min (max c 0) 64).toNat
theorem GS(c:Int):tZ c<=64:=by unfold tZ;omega
def eM(old data:Wl)(c:Int):Wl:=data.take (tZ c)++old.drop (tZ c)
theorem pZ{old data:Wl}(c:Int)(D:Sec old)(hd:Sec data):Sec (eM old data c):=by
 have h:=GS c;refine⟨by unfold eM;rw[jj,jv,List.length_drop,D.1,hd.1];omega,λb hb=>?_⟩;unfold eM at hb;rw[ju] at hb;rcases hb with hb|hb
 ·exact hd.2 b (j7 hb)
 ·exact D.2 b (List.mem_of_mem_drop hb)
theorem QG(c:Int)(w:Wd):Wc 245 #[.int .i64 c] w λe w'=>e = .returned (.int .i64 (tZ c:Nat))/\w'=w:=by
 have h1:((tZ c:Nat):Int)=min (max c 0) 64:=by unfold tZ;omega
 rw[h1];clear h1;by_cases h0:0<=c
 ·have I:max c 0=c:=by omega
  rw[I];by_cases h64:c<=64
  ·have D:min c 64=c:=by omega
   rw[D];go_enter func245,ntmps245
   go_wp2_with fail
   go_ret;exact⟨by first|rfl|(rw[I,D])|simp[I,D],rfl⟩
  ·have D:min c 64=64:=by omega
   rw[D];go_enter func245,ntmps245
   go_wp2_with fail
   go_ret;exact⟨by first|rfl|(rw[I,D])|simp[I,D],rfl⟩
 ·have I:max c 0=0:=by omega
  rw[I];have D:min (0:Int) 64=0:=by omega
  rw[D];go_enter func245,ntmps245
  go_wp2_with fail
  go_ret;exact⟨by first|rfl|(rw[I,D])|simp[I,D],rfl⟩
section
variable {P : Program} {ops : Array Oper} {Q : Exit -> Act -> Wd -> Prop} {a : Act} {w : Wd}
theorem TX{S:Wd->Prop}{listed:Array Bool}{fuel:Nat}{R:List Nat}(i:Nat){dT sT elem:TypeId}(p q:Operand)(dst:Option Tmp)(hd:(ops[i]?).map (λo=>(o.op,o.dst))=some (.call { callee:=.builtin .copy,args:=#[p,q],argTypes:=#[dT,sT] },dst))(hw:(ops[i]?).map (λo=>Region.wanted o (yielded ops a.tmps))=some true)
  {b off dn dc J D n cap:Nat} {I:Wv} (Z:a.eval p = .slice (some ⟨b,off,none⟩) dn dc) (hq:a.eval q = .slice (some ⟨J,D,none⟩) n cap) (hu:P.underlying dT=some (.slice elem)) (hs:(P.info? elem).map (·.size)=some 1) (U:dn<=n) (O:I.length=dn) (hx:∀ j u,I[j]? = some u->w.cell? ⟨J,D+j,none⟩=some u) (ht:w.there b off dn) (h1:∀ u∈I,u.oneCell'=true) (hS:S (w.setCells b off I))
  (h:wpAnyH P .any ops Q S fuel (listed.setIfInBounds i true) (a.put dst (goInt dn)) (w.setCells b off I)) (hr:AllReadyH P .any ops Q S fuel listed a w R):AllReadyH P .any ops Q S fuel listed a w (i :: R):=
 AO i _ dst _ _ hd hw (λo V=>by
  have hrun:=run_copy_cells (P:=P) w dT sT o.type elem b off dn dc ⟨J,D,none⟩ n cap I hu hs (by rw[O];exact(Nat.min_eq_right U).symm) (λj v K=>by rw[Addr.add_mid];exact hx j v K) (λj K=>(ht j (by omega)).1) (λj K=>(ht j (by omega)).2) h1
  rw[O] at hrun
  unfold execOp
  simp only[V,resolve,invoke,builtin,Sem.run_bind,Sem.run_pure,Result.andThen_ok,List.map_toArray,List.map_cons,List.map_nil,Z,hq,hrun]) hS h hr
end
theorem L3(old data:Wl)(k:Nat)(D:old.length=64)(hd:data.length=64):
  (((u8s data).take k).zipIdx 0).foldl (fun(cs:Wa) (x:Value×Nat)=>cs.setIfInBounds x.2 x.1) (u8s old).toArray=(u8s (data.take k++old.drop k)).toArray:=by
 have h:=tT [] ((u8s old).take k) ((u8s old).drop k) ((u8s data).take k) (by simp[u8s,D,hd]);simp only[List.nil_append,List.length_nil,List.take_append_drop] at h;rw[h,fH,mG,oW]
theorem L4(old data:Wl)(c:Int)(w:Wd)(V:Sec old)(hd:Sec data):
  Wc 232 #[.agg (u8s old).toArray,.agg (u8s data).toArray,.int .i64 c] w (Rt w (.agg (u8s (eM old data c)).toArray)):=by
 have HO:=jz V;have HD:=jz hd;have U:=jz (pZ c V hd);have a1:=jz (λI=>QG c I);have hk:=GS c;have a3:=jz (L3 old data (tZ c) V.1 hd.1);have a2:Hid (eM old data c=data.take (tZ c)++old.drop (tZ c)):=jz rfl;clear V hd;obtain⟨k,a7⟩:=je (tZ c);rw[<- a7] at hk a3 a2 a1;clear a7;have c6:prog.arrayLen 195=64:=by kernel_rfl
 have b7:Hid (∀(g:Nat) (W:Wd),(Instr.sliceAt 195 (.pointer (some ⟨g,0,none⟩)) none (some (.int .i64 (k:Int))) none).run prog W = .ok (.slice (some ⟨g,0,none⟩) k 64) W):=jz (λg W=>by
  rw[run_sliceAt_array_h W 195 ⟨g,0,none⟩ (by kernel_rfl) .i64 (k:Int) (by omega) (by rw[c6];omega)]
  go_simp)
 go_enter func232,ntmps232
 go_wp2_with (refine al 195 z64 rfl rfl dH ?_)
 obtain⟨I,D⟩:=je (((w.alloc (.cells (u8s old).toArray 195)).alloc (.cells (u8s data).toArray 195)).alloc (.cells z64 195));have R:Hid (Blk I w.heap.size 195 (u8s old).toArray):=jz (by rw[D];exact((Blk.new w _ _).alloc _).alloc _);have a8:Hid (Blk I (w.heap.size+1) 195 (u8s data).toArray):=jz (by rw[D];exact(Blk.newAt _ _ _ _ (by simp)).alloc _);have a9:Hid (Blk I (w.heap.size+1+1) 195 z64):=jz (by rw[D];exact Blk.newAt _ _ _ _ (by simp));have b1:Hid (Bw w I):=jz (by rw[D];exact(((ji _ w).alloc (ja _) _).alloc (by simp) _).alloc (by simp;omega) _);rw[<- D];simp only[World.size_alloc];clear D;have c2:Hid (((u8s data).take k).length=k):=jz (by rw[jv,aH HD.out];omega);have c5:Hid (∀ j u,((u8s data).take k)[j]? = some u->I.drew.cell? ⟨w.heap.size+1,0+j,none⟩=some u):=jz (λj u hj=>by
  have h1:=a8.cell (0+j)
  rw[List.getElem?_take] at hj
  split at hj
  ·exact h1.trans (by rw[Nat.zero_add];simpa using hj)
  ·cases hj)
 have c4:Hid (I.drew.there w.heap.size 0 k):=jz (λj hj=>⟨by
  have h1:=R.cell (0+j)
  have h2:I.drew.cell? ⟨w.heap.size,0+j,none⟩=I.cell? ⟨w.heap.size,0+j,none⟩:=rfl
  rw[h2,h1,Nat.zero_add,Array.getElem?_eq_getElem (by rw[js,aH HO.out];omega)];rfl,R.frozen _⟩)
 have b9:Hid (∀ u∈(u8s data).take k,u.oneCell'=true):=jz (λu hu=>cI _ u (j7 hu));refine cC 5 (λ_=>True) (by kernel_rfl) (by kernel_rfl) (trivial) (λhH=>?_);refine jM 0 (.tmp 2) (some 7) (.int .i64 c) hH ?_;simp only[jq];refine jT 3 (.slice 195 (.tmp 4) none none none) (some 10) (.slice (some ⟨w.heap.size+1,0,none⟩) 64 64) hH ?_;simp only[jq];refine jW [1] ?_;refine jC 1 (.call { callee:=.value (.func 245),args:=#[.tmp 7],argTypes:=#[3] }) (some 8) 245 (#[.int .i64 c]) ?_ jN;refine(a1 _).mono ?_;rintro e wM ⟨rfl,c7⟩;rw[c7];refine⟨_,rfl,trivial,λhH=>?_⟩;simp only[jq];refine jT 2 (.slice 195 (.tmp 3) none (some (.tmp 8)) none) (some 9) (.slice (some ⟨w.heap.size,0,none⟩) k 64) (hy:=λo V wX hX=>by have c9:=b7.out;unfold execOp;simp only[V];go_simp) hH ?_;simp only[jq];refine jW [4] ?_;refine TX (sT:=60) 4 (.tmp 9) (.tmp 10) (some 11) (by kernel_rfl) (by kernel_rfl) (by rfl) (by rfl) underlying60 (by kernel_rfl) hk c2 c5 c4 b9 trivial ?_ jN;simp only[jq];refine wpAnyH_done (by kernel_rfl) ?_ _;clear hH;obtain⟨w2,K⟩:=je (I.drew.setCells w.heap.size 0 ((u8s data).take k));have O:Hid (Blk w2 w.heap.size 195 (u8s (eM old data c)).toArray):=jz (by
  have h:=dM ((u8s data).take k) 0 I.drew _ R.out
  rw[a3.out,<- a2.out] at h
  rw[K];exact h)
 have Z:Hid (Blk w2 (w.heap.size+1+1) 195 z64):=jz (by rw[K];exact(bF (by omega) _ _ _).trans a9);have a0:Hid (Bw w w2):=jz (by rw[K];exact b1.drew.trans (aU (ja _) _ _ _).1);rw[<- K];clear K;have a4:Hid ((prog.info? 195).map (·.size)=some (u8s (eM old data c)).length):=jz (by rw[aH U.out];kernel_rfl);have J:Hid ((prog.info? 195).map (·.size)=some (u8s (eM old data c)).toArray.size/\z64.size=(u8s (eM old data c)).toArray.size/\(u8s (eM old data c)).toArray.all (·.oneCell')=true):=jz ⟨by rw[js,aH U.out];kernel_rfl,by rw[cT,js,aH U.out],dL _⟩;obtain⟨T,hT⟩:=je (u8s (eM old data c));rw[<- hT] at O a4 J;have c3:=jz hT;have b3:Hid (w2.rangeAt w.heap.size 0 T):=jz (by have h:=O.range;rw[jt] at h;exact h);clear hT;go_wp2_with (first
  | (refine ld 195 _ rfl rfl rfl b3 underlying195 rfl a4 ?_)
  | (refine aN 195 (.tmp 6) (.tmp 12) rfl rfl rfl rfl Z J.out.1 J.out.2.1 J.out.2.2 ?_;intro w3 a5 a6 _ _;have b0:=jz a5;have b2:=jz a6;clear a5 a6))
 exact bodyPost_ret (results_cell_row rfl _ _ (w.heap.size+1+1) 195 _ (0,0) _ rfl b0 underlying195 rfl J.out.1) rfl ⟨by rw[<- c3.out],a0.trans (b2.mono (by omega))⟩
end Go.Proofs.YtjjlaipkkdncfaaGreatDoor
