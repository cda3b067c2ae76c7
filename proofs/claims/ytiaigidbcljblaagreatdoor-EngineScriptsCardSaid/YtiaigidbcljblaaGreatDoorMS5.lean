import Derived.Test.YtiaigidbcljblaaGreatDoorMS1
import Derived.BigQuiet
set_option linter.unusedSimpArgs false
set_option maxRecDepth 100000
set_option maxHeartbeats 40000000
namespace Go.Proofs.YtiaigidbcljblaaGreatDoor
open Go.Proofs.Tryz
open Go.RowKit
attribute [local irreducible] wpQuiet wpAnyH
def aX(d:DiskD):DiskD:={ d with steps:=d.steps+1,fl:=λk=>if k=((d.steps+1:Nat):Int) then false else d.fl k,cr:=λk=>if k=((d.steps+1:Nat):Int) then none else d.cr k,room:=max d.room (d.steps+1) }
def gQ(m:DiskM)(d:DiskD):DiskM:={ m with fv:=tS m.fv ((d.steps+1:Nat):Int),cv:=tS m.cv ((d.steps+1:Nat):Int) }
def jF(d:DiskD):Int:=if (d.cr ((d.steps+1:Nat):Int)).isSome then 2 else if d.fl ((d.steps+1:Nat):Int) then 1 else 0
def eO(d:DiskD):Wl:=(d.cr ((d.steps+1:Nat):Int)).getD []
theorem ZG:∀ w,(zeroValue 4).run prog w = .ok (.bool false) w:=λw=>by kernel_rfl
theorem ZH:∀ w,(zeroValue 69).run prog w = .ok (.slice none 0 0) w:=λw=>by kernel_rfl
theorem zB(w:Wd)(m:DiskM)(d:DiskD)(h:DK w m d)(hs:d.steps+1<=100000):
  Wc 260 #[.pointer (some ⟨m.g,0,none⟩)] w λe w'=>∃ v,e = .returned (.tuple #[.int .i64 (jF d),v])/\Sn w' 1 v (eO d).length (lV (eO d))/\(∀ b,v.ownBlock=some b->b ∉ aZ m/\b<w'.heap.size)/\DK w' (gQ m d) (aX d)/\DT w m w' (gQ m d):=by
 have H:=jz h;have h9:=h.blk.lt;have e1:=h.blk.cell 4;have m1:=h.blk.frozen 4;simp only[eG,jf,jh,jg] at e1;clear h;obtain⟨s,f3⟩:=je d.steps;have m3:s+1<=100000:=by omega
 rw[<- f3] at e1;have HS:=jz f3;have j:aE ((s+1:Nat):Int):=by unfold aE;omega
 obtain⟨D,a5⟩:=je (w.setCell ⟨m.g,4,none⟩ (.int .i64 ((s+1:Nat):Int)));have h7:Blk D m.g 151 #[m.sv,m.ov,.map (some m.bl),.bool d.down,.int .i64 ((s+1:Nat):Int),.map (some m.bf),.map (some m.bc)]:=by rw[a5];exact H.out.blk.set_ 4 _
 have d5:Hid (∀ k,k≠m.g->D.heap[k]? = w.heap[k]?):=jz (λk j=>by rw[a5];exact Below.heap_setCell w ⟨m.g,4,none⟩ _ k j);have c6:Hid (D.heap.size=w.heap.size):=jz (by rw[a5];simp);have f8:Hid (Fo (aZ m) w D):=jz (by rw[a5];exact Fo.refl.set m.g 4 (iW m) _);have V:=jz (iJ H.out.nd);have g3:Hid (UM D m.bf d.room m.fv):=jz (H.out.fl.of_block (d5 _ (λe=>V.out.2.1 e.symm)));have g1:Hid (UM D m.bc d.room m.cv):=jz (H.out.cr.of_block (d5 _ (λe=>V.out.2.2.1 e.symm)));have d0:=H.out.flv ((s+1:Nat):Int) j;have d7:=jz h7;have HK:Hid (∀ W:Wd,W.heap=D.heap->(∀ n,(Instr.lookup 147 (.map (some m.bf)) (.int .i64 ((s+1:Nat):Int)) false).run prog (W.drewN n) = .ok (.bool (d.fl ((s+1:Nat):Int))) (W.drewN n))/\(∀ n,(Instr.lookup 148 (.map (some m.bc)) (.int .i64 ((s+1:Nat):Int)) true).run prog (W.drewN n) = .ok (.tuple #[(m.cv ((s+1:Nat):Int)).getD (.slice none 0 0),.bool (m.cv ((s+1:Nat):Int)).isSome]) (W.drewN n))/\W.cell? ⟨m.g,5,none⟩=some (.map (some m.bf))/\W.cell? ⟨m.g,6,none⟩=some (.map (some m.bc))/\W.cell? ⟨m.g,4,none⟩=some (.int .i64 ((s+1:Nat):Int))):=jz (λW hW=>by
  have hB:Blk W m.g 151 _:=(congrArg (λh:Array _=>h[m.g]?) hW).trans d7.out
  refine⟨λn=>?_,λn=>?_,hB.cell 5,hB.cell 6,hB.cell 4⟩
  ·have h1:UM (W.drewN n) m.bf d.room m.fv:=g3.of_block (congrArg (λh:Array _=>h[m.bf]?) hW)
   have R:=UM.look1 underlying147 h1 (ZG _) j
   rw[d0] at R
   exact R
  ·have h1:UM (W.drewN n) m.bc d.room m.cv:=g1.of_block (congrArg (λh:Array _=>h[m.bc]?) hW)
   exact UM.look underlying148 h1 (ZH _) j)
 clear d0 h7;have k4:Hid (w.setCell ⟨m.g,4,none⟩ (.int .i64 ((s:Int)+1))=D):=jz a5.symm;clear a5 f3;have m4:(s:Int)<=100000:=by omega
 go_enter func260,ntmps260
 go_wp2_with fail
 rw[k4.out];obtain⟨fb,f1⟩:=je (d.fl ((s+1:Nat):Int));obtain⟨vo,f5⟩:=je (m.cv ((s+1:Nat):Int));obtain⟨K,hK⟩:∃ K:Int,K=((s+1:Nat):Int):=⟨_,rfl⟩;rw[<- f1,<- f5,<- hK] at HK;rw[<- hK] at j;have Z:=jz hK;clear hK;obtain⟨m2,f2,e8,f0,b1⟩:=HK.out D rfl;have k0:=jz f1;have h5:=jz f5;clear f1 f5 e1 m1
 go_quiet (fail)
 go_wp2_with fail
 obtain⟨w2,f6⟩:=je (D.drewN nq);have d2:Hid (w2.heap=D.heap/\w2.os=D.os/\w2.tape=D.tape/\w2.output=D.output):=jz (by rw[f6];exact⟨rfl,rfl,rfl,rfl⟩);rw[<- f6];clear f6 m2 f2 e8 f0 b1;obtain⟨_,f2,e8,f0,b1⟩:=HK.out w2 d2.out.1
 go_quiet (fail)
 go_wp2_with fail
 obtain⟨w3,f7⟩:=je (w2.drewN nq);have I:Hid (w3.heap=D.heap/\w3.os=D.os/\w3.tape=D.tape/\w3.output=D.output):=jz (by rw[f7];exact d2);rw[<- f7];clear f7 f2 e8 f0 b1 d2;have g8:Hid (UM w3.drew m.bf d.room m.fv):=jz (g3.of_block (congrArg (λh:Array _=>h[m.bf]?) I.out.1));obtain⟨U,a8,b0,a4⟩:∃ U,Hid (∀ ty,(Builtin.delete_ #[147,3] ty #[.map (some m.bf),.int .i64 K]).run prog w3.drew = .ok (.tuple #[]) U)/\Hid (UM U m.bf d.room (tS m.fv K))/\Hid (w3.drew.grownBy U (some m.bf)):=by
  obtain⟨U,h1,R,h3⟩:=UM.del_run underlying147 g8 j 0;exact⟨U,jz (λty=>h1),jz R,jz h3.grown⟩
 have b7:Hid (∀ k,k<w.heap.size->k≠m.bf->U.heap[k]? = D.heap[k]?):=jz (λk j hn=>(a4.block k (by have:=congrArg Array.size I.out.1;have:=c6.out;simp;omega) (λe=>hn (Option.some.inj e))).trans (congrArg (λh:Array _=>h[k]?) I.out.1));have a3:Hid (Blk U m.g 151 #[m.sv,m.ov,.map (some m.bl),.bool d.down,.int .i64 ((s+1:Nat):Int),.map (some m.bf),.map (some m.bc)]):=jz ((b7 m.g h9 V.out.2.1).trans d7);have f9:Hid (U.cell? ⟨m.g,5,none⟩=some (.map (some m.bf))/\U.cell? ⟨m.g,4,none⟩=some (.int .i64 K)):=jz ⟨a3.cell 5,by rw[Z.out];exact a3.cell 4⟩;refine bQ 9 (λwz=>wz.cell? ⟨m.g,5,none⟩=some (.map (some m.bf))/\wz.cell? ⟨m.g,4,none⟩=some (.int .i64 K)) (by kernel_rfl) (by kernel_rfl) (⟨(HK w3.drew I.out.1).2.2.1,(HK w3.drew I.out.1).2.2.2.2⟩) (λJ=>?_);refine jM 0 (.tmp 0) (some 35) (.pointer (some ⟨m.g,0,none⟩)) J ?_;simp only[jq];refine jT 1 (.nilCheck (.tmp 35)) (some 36) (.pointer (some ⟨m.g,0,none⟩)) J ?_;simp only[jq];refine jT 2 (.fieldAddr 151 (.tmp 36) 5) (some 37) (.pointer (some ⟨m.g,5,none⟩)) J ?_;simp only[jq];refine jT 3 (.load 147 (.tmp 37)) (some 38) (.map (some m.bf)) (hy:=λo ho wX hX=>by have a2:=hX.1;unfold execOp;simp only[ho];go_simp) J ?_;simp only[jq];refine jM 4 (.tmp 0) (some 39) (.pointer (some ⟨m.g,0,none⟩)) J ?_;simp only[jq];refine jT 5 (.nilCheck (.tmp 39)) (some 40) (.pointer (some ⟨m.g,0,none⟩)) J ?_;simp only[jq];refine jT 6 (.fieldAddr 151 (.tmp 40) 4) (some 41) (.pointer (some ⟨m.g,4,none⟩)) J ?_;simp only[jq];refine jT 7 (.load 3 (.tmp 41)) (some 42) (.int .i64 K) (hy:=λo ho wX hX=>by have a2:=hX.2;unfold execOp;simp only[ho];go_simp) J ?_;simp only[jq];refine jW [8] ?_;refine ZF 8 (.tmp 38) (.tmp 42) none U (vm:=.map (some m.bf)) (vk:=.int .i64 K) (by kernel_rfl) (by kernel_rfl) (by rfl) (by rfl) a8 f9 ?_ jN;simp only[jq];refine wpAnyH_done (by kernel_rfl) ?_ _;clear J;go_wp2_with fail
 have g2:Hid (UM U.drew m.bc d.room m.cv):=jz (g1.of_block (b7 m.bc H.out.cr.lt (λe=>V.out.2.2.2.2.2.1 e.symm)));have h6:Hid (w.heap.size<=U.heap.size):=jz (by have h1:=a4.size;have R:=congrArg Array.size I.out.1;have h3:=c6.out;simp at h1;omega);have k1:Hid (U.drew.cell? ⟨m.g,6,none⟩=some (.map (some m.bc))/\U.drew.cell? ⟨m.g,4,none⟩=some (.int .i64 K)):=jz ⟨a3.cell 6,by rw[Z.out];exact a3.cell 4⟩;obtain⟨O,a9,c7,a1⟩:∃ O,Hid (∀ ty,(Builtin.delete_ #[148,3] ty #[.map (some m.bc),.int .i64 K]).run prog U.drew = .ok (.tuple #[]) O)/\Hid (UM O m.bc d.room (tS m.cv K))/\Hid (U.drew.grownBy O (some m.bc)):=by
  obtain⟨O,h1,R,h3⟩:=UM.del_run underlying148 g2 j 0;exact⟨O,jz (λty=>h1),jz R,jz h3.grown⟩
 have c2:Hid (∀ k,k<w.heap.size->k≠m.bf->k≠m.bc->O.heap[k]? = D.heap[k]?):=jz (λk j h1 R=>(a1.block k (by have:=h6.out;simp;omega) (λe=>R (Option.some.inj e))).trans (b7 k j h1));have a6:Hid (Blk O m.g 151 #[m.sv,m.ov,.map (some m.bl),.bool d.down,.int .i64 ((s+1:Nat):Int),.map (some m.bf),.map (some m.bc)]):=jz ((c2 m.g h9 V.out.2.1 V.out.2.2.1).trans d7);have g0:Hid (O.cell? ⟨m.g,6,none⟩=some (.map (some m.bc))/\O.cell? ⟨m.g,4,none⟩=some (.int .i64 K)):=jz ⟨a6.cell 6,by rw[Z.out];exact a6.cell 4⟩;refine bQ 9 (λwz=>wz.cell? ⟨m.g,6,none⟩=some (.map (some m.bc))/\wz.cell? ⟨m.g,4,none⟩=some (.int .i64 K)) (by kernel_rfl) (by kernel_rfl) (k1) (λJ=>?_);refine jM 0 (.tmp 0) (some 43) (.pointer (some ⟨m.g,0,none⟩)) J ?_;simp only[jq];refine jT 1 (.nilCheck (.tmp 43)) (some 44) (.pointer (some ⟨m.g,0,none⟩)) J ?_;simp only[jq];refine jT 2 (.fieldAddr 151 (.tmp 44) 6) (some 45) (.pointer (some ⟨m.g,6,none⟩)) J ?_;simp only[jq];refine jT 3 (.load 148 (.tmp 45)) (some 46) (.map (some m.bc)) (hy:=λo ho wX hX=>by have a2:=hX.1;unfold execOp;simp only[ho];go_simp) J ?_;simp only[jq];refine jM 4 (.tmp 0) (some 47) (.pointer (some ⟨m.g,0,none⟩)) J ?_;simp only[jq];refine jT 5 (.nilCheck (.tmp 47)) (some 48) (.pointer (some ⟨m.g,0,none⟩)) J ?_;simp only[jq];refine jT 6 (.fieldAddr 151 (.tmp 48) 4) (some 49) (.pointer (some ⟨m.g,4,none⟩)) J ?_;simp only[jq];refine jT 7 (.load 3 (.tmp 49)) (some 50) (.int .i64 K) (hy:=λo ho wX hX=>by have a2:=hX.2;unfold execOp;simp only[ho];go_simp) J ?_;simp only[jq];refine jW [8] ?_;refine ZF 8 (.tmp 46) (.tmp 50) none O (vm:=.map (some m.bc)) (vk:=.int .i64 K) (by kernel_rfl) (by kernel_rfl) (by rfl) (by rfl) a9 g0 ?_ jN;simp only[jq];refine wpAnyH_done (by kernel_rfl) ?_ _;clear J;have e0:Hid (w.heap.size<=O.heap.size):=jz (by have h1:=a1.size;have R:=h6.out;simp at h1;omega);have a7:Hid (∀ k,k<w.heap.size->k≠m.g->k≠m.bf->k≠m.bc->O.heap[k]? = w.heap[k]?):=jz (λk j h0 h1 R=>(c2 k j h1 R).trans (d5 k h0));have c9:Hid (UM O m.bf d.room (tS m.fv K)):=jz (b0.of_block ((a1.block m.bf b0.lt (λe=>V.out.2.2.2.2.2.1 (Option.some.inj e)))));have c4:Hid (DT w m O (gQ m d)):=jz ⟨rfl,f8.trans ⟨a1.os.trans (a4.os.trans I.out.2.1),a1.tape.trans (a4.tape.trans I.out.2.2.1),a1.output.trans (a4.output.trans I.out.2.2.2),by have h1:=e0.out;have R:=c6.out;omega,λk j hn=>c2.out k (by have:=c6.out;omega) (λe=>hn (by rw[e];exact oQ m)) (λe=>hn (by rw[e];exact mI m))⟩ (λx hx=>.inl hx),λk j=>.inl j,λk v j=>.inl (by
  have j:(if k=((d.steps+1:Nat):Int) then none else m.cv k)=some v:=j
  split at j
  ·cases j
  ·exact j)⟩
 have d1:Hid (DK O (gQ m d) (aX d)):=jz (by
  have h8:K=((d.steps+1:Nat):Int):=by rw[Z.out,HS.out]
  refine H.out.re rfl [m.g,m.bf,m.bc] (λk j=>by
   simp only[jl,j8,or_false] at j
   rcases j with rfl|rfl|rfl
   ·exact iW m
   ·exact oQ m
   ·exact mI m) (λk j hn=>by
   simp only[jl,j8,or_false,not_or] at hn
   exact a7 k j hn.1 hn.2.1 hn.2.2) e0 ?_ (aQ H.out.sec λb hb=>a7.out b (H.out.sec.lt b hb).2 ?_ ?_ ?_) (aQ H.out.opn λb hb=>a7.out b (H.out.opn.lt b hb).2 ?_ ?_ ?_) ((H.out.last.of_block (a7 m.bl H.out.last.lt (λe=>V.out.1 e.symm) V.out.2.2.2.1 V.out.2.2.2.2.1)).mono (Nat.le_max_left _ _)) ?_ ?_ H.out.nd (λb hb=>.inl hb) (λk j=>?_) (λk j=>?_) ?_
  ·have h:=a6.out
   rw[HS.out] at h
   exact h
  ·exact(V.out.2.2.2.2.2.2.1 b hb).1
  ·exact(V.out.2.2.2.2.2.2.1 b hb).2.2.1
  ·exact(V.out.2.2.2.2.2.2.1 b hb).2.2.2
  ·exact(V.out.2.2.2.2.2.2.2.1 b hb).1
  ·exact(V.out.2.2.2.2.2.2.2.1 b hb).2.2.1
  ·exact(V.out.2.2.2.2.2.2.2.1 b hb).2.2.2
  ·have h:=c9.out;rw[h8] at h;exact h.mono (Nat.le_max_left _ _)
  ·have h:=c7.out;rw[h8] at h;exact h.mono (Nat.le_max_left _ _)
  ·show(tS m.fv _ k).getD (.bool false) = .bool (if k=_ then false else d.fl k)
   unfold tS
   by_cases e:k=((d.steps+1:Nat):Int)
   ·rw[jP e,jP e];rfl
   ·rw[jQ e,jQ e];exact H.out.flv k j
  ·show((if k=_ then none else d.cr k)=none/\tS m.cv _ k=none)\/((if k=_ then none else d.cr k)=d.cr k/\tS m.cv _ k=m.cv k)
   unfold tS
   by_cases e:k=((d.steps+1:Nat):Int)
   ·rw[jP e,jP e];exact .inl ⟨rfl,rfl⟩
   ·rw[jQ e,jQ e];exact .inr ⟨rfl,rfl⟩
  ·have ok:=H.out.ok
   exact⟨ok.sec,ok.opn,ok.few,jm ok.lo (Nat.le_max_left _ _),Nat.le_max_right _ _,by have h1:=ok.rm;have R:=HS.out;show max d.room (d.steps+1)<=100000;omega,λk cs h=>by
    have h:(if k=((d.steps+1:Nat):Int) then none else d.cr k)=some cs:=h
    split at h
    ·cases h
    ·exact ok.cl k cs h⟩)
 have c3:=jz (H.out.crv K j);have c5:Hid (jF d=(if (d.cr K).isSome then 2 else if fb then 1 else 0)/\eO d=(d.cr K).getD []):=jz (by unfold jF eO;rw[Z.out,k0.out,HS.out];exact⟨rfl,rfl⟩);clear c9 a7 c2 b7 c7 b0 a4 a1 a8 a9 HK;cases hcr:d.cr K with
 | none=>
  have h1:=c3.out;rw[hcr] at h1;have h1:m.cv K=none:=h1;have hv:vo=none:=by rw[h5.out,<- Z.out];exact h1
  subst hv;have a0:Hid (jF d=(if fb then 1 else 0)/\eO d=[]):=jz (by have h:=c5.out;rw[hcr] at h;exact h);clear hcr h1 c5 c3;cases fb with
  | true=>
   go_wp2_with fail
   go_ret2
   exact⟨_,by rw[a0.out.1];rfl,by rw[a0.out.2];exact⟨none,0,rfl,ja _,rfl,λh=>by cases h⟩,(λb e=>by cases e),d1,c4⟩
  | false=>
   go_wp2_with fail
   go_ret2
   exact⟨_,by rw[a0.out.1];rfl,by rw[a0.out.2];exact⟨none,0,rfl,ja _,rfl,λh=>by cases h⟩,(λb e=>by cases e),d1,c4⟩
 | some cs=>
  have h1:=c3.out;rw[hcr] at h1;obtain⟨v,R,h3,h4⟩:=h1;have hv:vo=some v:=by rw[h5.out,<- Z.out];exact R
  subst hv;have a0:Hid (jF d=2/\eO d=cs):=jz (by have h:=c5.out;rw[hcr] at h;exact h);have k2:Hid (Sn O 1 v cs.length (lV cs)):=jz (c4.fo.sn h3 (λb hb=>(h4 b hb).1));have k3:Hid (∀ b,v.ownBlock=some b->b ∉ aZ m/\b<O.heap.size):=jz (λb hb=>⟨(h4 b hb).1,jp (h4 b hb).2 e0⟩);clear hcr R h3 h4 c5 c3;go_wp2_with fail
  go_ret2
  exact⟨v,by rw[a0.out.1];rfl,by rw[a0.out.2];exact k2,k3,d1,c4⟩
def gX(m:DiskM):DiskM:={ m with ov:=.slice none 0 0 }
def GT(d:DiskD):DiskD:={ d with opn:=[] }
theorem pQ{m:DiskM}:∀ k∈aZ (gX m),k∈aZ m:=by
 intro k j;simp only[aZ,gX,Value.ownBlock,Option.toList_none,List.append_nil,ju] at j ⊢;rcases j with h|h
 ·exact .inl h
 ·exact .inr (.inl h)
theorem DP{m:DiskM}(h:(aZ m).Nodup):(aZ (gX m)).Nodup:=by
 have e:aZ m=aZ (gX m)++m.ov.ownBlock.toList:=by simp[aZ,gX,Value.ownBlock]
 rw[e,List.nodup_append] at h;exact h.1
theorem vL(w:Wd)(m:DiskM)(d:DiskD)(h:DK w m d):
  Wc 116 #[.pointer (some ⟨m.g,0,none⟩)] w λe w'=>e = .returned (.tuple #[])/\DK w' (gX m) (GT d)/\DT w m w' (gX m):=by
 have H:=jz h;have I:=jz (iJ H.out.nd);have a4:=h.blk.lt;have R:=h.blk.cell 1;have a6:=h.blk.frozen 1;have a3:=h.blk.cell 2;simp only[eG,jf,jh,jg] at R a3;obtain⟨A0,a5,U,_⟩:=Sn.own h.opn;rw[U] at R;clear h;have V:Hid (Blk (w.setCell ⟨m.g,1,none⟩ (.slice none 0 0)) m.g 151 (eG (gX m) (GT d))):=jz (H.out.blk.set_ 1 _);have a1:Hid (UM (w.setCell ⟨m.g,1,none⟩ (.slice none 0 0)) m.bl d.room (eL d.opn)):=jz (H.out.last.of_block (Below.heap_setCell w ⟨m.g,1,none⟩ _ _ (λe=>I.out.1 e.symm)));obtain⟨w2,K,a2,j⟩:∃ w2,Hid (∀ ty,(Builtin.clear_ #[146] ty #[.map (some m.bl)]).run prog (w.setCell ⟨m.g,1,none⟩ (.slice none 0 0)) = .ok (.tuple #[]) w2)/\Hid (UM w2 m.bl d.room (λ_=>none))/\Hid ((w.setCell ⟨m.g,1,none⟩ (.slice none 0 0)).grownBy w2 (some m.bl)):=by
  obtain⟨w2,h1,h2,h3⟩:=UM.clear_run underlying146 a1 0;exact⟨w2,jz (λty=>h1),jz h2,jz h3.grown⟩
 have x:Hid (∀ k,k<w.heap.size->k≠m.g->k≠m.bl->w2.heap[k]? = w.heap[k]?):=jz (λk D h0 h1=>(j.block k (by simpa using D) (λe=>h1 (Option.some.inj e))).trans (Below.heap_setCell w ⟨m.g,1,none⟩ _ k h0));have O:Hid (w.heap.size<=w2.heap.size):=jz (by have:=j.size;simpa using this);have a0:Hid (DT w m w2 (gX m)):=jz ⟨rfl,⟨j.os,j.tape,j.output,O,λk D J=>x.out k D (λe=>J (by rw[e];exact iW m)) (λe=>J (by rw[e];exact oP m))⟩,λk D=>.inl (pQ k D),λ_ _ h=>.inl h⟩;have Z:Hid (DK w2 (gX m) (GT d)):=jz (by
  refine H.out.re rfl [m.g,m.bl] (λk D=>by
   simp only[jl,j8,or_false] at D
   rcases D with rfl|rfl
   ·exact iW m
   ·exact oP m) (λk D J=>by
   simp only[jl,j8,or_false,not_or] at J
   exact x k D J.1 J.2) O ((j.block m.g (by simpa using a4) (λe=>I.out.1 (Option.some.inj e))).trans V) (aQ H.out.sec λb hb=>x.out b (H.out.sec.lt b hb).2 ?_ ?_) (World.ownsRow_nil _ _ _ _) ?_ (H.out.fl.of_block (x _ H.out.fl.lt (λe=>I.out.2.1 e.symm) (λe=>I.out.2.2.2.1 e.symm))) (H.out.cr.of_block (x _ H.out.cr.lt (λe=>I.out.2.2.1 e.symm) (λe=>I.out.2.2.2.2.1 e.symm))) (DP H.out.nd) (λb hb=>.inl (pQ b hb)) H.out.flv (λk D=>.inr ⟨rfl,rfl⟩) ?_
  ·exact(I.out.2.2.2.2.2.2.1 b hb).1
  ·exact(I.out.2.2.2.2.2.2.1 b hb).2.1
  ·show UM _ _ _ (eL [])
   rw[vB]
   exact a2.out
  ·have ok:=H.out.ok
   exact⟨ok.sec,(λp hp=>by cases hp),ok.few,j0 _,ok.st,ok.rm,ok.cl⟩)
 have hrun:=K.out;clear U;go_enter func116,ntmps116
 go_wp2_with fail
 exact bodyPost_end (results_none rfl _ _ _) rfl ⟨rfl,Z,a0⟩
def dY(d:DiskD):DiskD:={ d with down:=false }
theorem DK.down{w:Wd}{m:DiskM}{d:DiskD}(h:DK w m d)(b:Bool):DK (w.setCell ⟨m.g,3,none⟩ (.bool b)) m { d with down:=b }/\DT w m (w.setCell ⟨m.g,3,none⟩ (.bool b)) m:=by
 have j:=iJ h.nd;have x:∀ k,k≠m.g->(w.setCell ⟨m.g,3,none⟩ (.bool b)).heap[k]? = w.heap[k]?:=λk D=>Below.heap_setCell w ⟨m.g,3,none⟩ _ k D
 refine⟨h.re rfl [m.g] (λk D=>by rw[List.mem_singleton] at D;rw[D];exact iW m) (λk _ j=>x k (by simpa using j)) (by simp) (h.blk.set_ 3 _) (aQ h.sec λb hb=>x b (j.2.2.2.2.2.2.1 b hb).1) (aQ h.opn λb hb=>x b (j.2.2.2.2.2.2.2.1 b hb).1) (h.last.of_block (x _ (λe=>j.1 e.symm))) (h.fl.of_block (x _ (λe=>j.2.1 e.symm))) (h.cr.of_block (x _ (λe=>j.2.2.1 e.symm))) h.nd (λb hb=>.inl hb) h.flv (λk D=>.inr ⟨rfl,rfl⟩) ⟨h.ok.sec,h.ok.opn,h.ok.few,h.ok.lo,h.ok.st,h.ok.rm,h.ok.cl⟩,⟨rfl,Fo.refl.set m.g 3 (iW m) _,λ_ h=>.inl h,λ_ _ h=>.inl h⟩⟩
theorem GU(w:Wd)(m:DiskM)(d:DiskD)(h:DK w m d):
  Wc 102 #[.pointer (some ⟨m.g,0,none⟩)] w λe w'=>e = .returned (.tuple #[])/\DK w' m (dY d)/\DT w m w' m:=by
 have H:=jz (h.down false);have j:=h.blk.cell 3;have x:=h.blk.frozen 3;simp only[eG,jf,jh,jg] at j;clear h;go_enter func102,ntmps102
 go_wp2_with fail
 exact bodyPost_end (results_none rfl _ _ _) rfl ⟨rfl,H.out.1,H.out.2⟩
def DQ(m:DiskM)(v:Value):DiskM:={ m with ov:=v }
def DS(d:DiskD)(a:Int)(s:Wl):DiskD:={ d with opn:=d.opn++[(a,s)],room:=d.room+1 }
theorem pH(s:Wl)(n:Nat)(h:s.length=n):s=(List.range n).map (λi=>s.getD i 0):=by
 subst h;apply List.ext_getElem
 ·simp
 ·intro i h1 j;simp[jn,h1]
theorem O8(a:Int)(s:Wl)(hs:Sec s):prog.built 363 [(0,.int .i64 a),(1,.agg (u8s s).toArray)]=some (wrC (a,s)).toArray:=by
 rw[pH s 64 hs.1];generalize (λi=>s.getD i 0)=D
 kernel_rfl
theorem tWr:SlT prog 149 363 65 72:=SlT.mk' underlying149 (z:=.agg (wrC (0,List.replicate 64 0)).toArray) (by kernel_rfl) rfl (by decide)
theorem uK(p:Int×Wl):∀ u∈wrC p,u.oneCell'=true:=by
 intro u j;simp only[wrC,jl] at j;rcases j with rfl|j
 ·rfl
 ·exact bS _ u j
theorem DU{m:DiskM}{v:Value}{w:Wd}(x:v.ownBlock=m.ov.ownBlock\/∃ k,v.ownBlock=some k/\w.heap.size<=k):∀ k∈aZ (DQ m v),k∈aZ m\/w.heap.size<=k:=by
 intro k j;simp only[aZ,DQ,ju,Option.mem_toList] at j ⊢;rcases j with h|h|h
 ·exact .inl (.inl h)
 ·exact .inl (.inr (.inl h))
 ·rcases x with e|⟨q,e,D⟩
  ·rw[e] at h;exact .inl (.inr (.inr h))
  ·rw[e] at h;have:=Option.some.inj h;omega
theorem XV{m:DiskM}{v:Value}{B:Nat}(h:(aZ m).Nodup)(j:∀ k∈aZ m,k<B)(x:v.ownBlock=m.ov.ownBlock\/∃ k,v.ownBlock=some k/\B<=k):(aZ (DQ m v)).Nodup:=by
 rcases x with e|⟨q,e,I⟩
 ·have:aZ (DQ m v)=aZ m:=by simp[aZ,DQ,e]
  rw[this];exact h
 ·have D:aZ m=aZ (gX m)++m.ov.ownBlock.toList:=by simp[aZ,gX,Value.ownBlock]
  have e2:aZ (DQ m v)=aZ (gX m)++[q]:=by
   show [m.g,m.bl,m.bf,m.bc]++(m.sv.ownBlock.toList++v.ownBlock.toList)=[m.g,m.bl,m.bf,m.bc]++(m.sv.ownBlock.toList++[])++[q];rw[e];simp
  rw[e2,List.nodup_append];refine⟨DP h,by simp,λa ha b hb e3=>?_⟩;rw[List.mem_singleton] at hb;have:=j a (pQ a ha);omega
theorem bO{w:Wd}{base e s n:Nat}{v:Value}{j:Wv}(h:w.ownsRow base e s v n j):∃ A cap,v = .slice A n cap/\Sn w s (.slice A n cap) n j/\∀ b off,A=some ⟨b,off,none⟩->base<=b/\b<w.heap.size:=by
 have hs:=Sn.own h;obtain⟨A,cap,rfl,_⟩:=id hs;exact⟨A,cap,rfl,hs,λb off e=>h.lt b (by rw[e];rfl)⟩
theorem O9(a:Int)(s:Wl)(w:Wd)(m:DiskM)(d:DiskD)(h:DK w m d)(ha:aE a)(hs:Sec s)(hr:d.room+1<=100000):
  Wc 312 #[.pointer (some ⟨m.g,0,none⟩),.int .i64 a,.agg (u8s s).toArray] w λe w'=>e = .returned (.bool (kH d a))/\∃ m',DK w' m' (if kH d a then DS d a s else d)/\DT w m w' m':=by
 have H:=jz h;have d1:=h.blk.lt;clear h;have f1:Bw w (w.alloc (.cells (u8s s).toArray 243)):=(ji _ _).alloc (ja _) _;have a6:=jz f1;have b0:=jz (λR (hb:Bw w R)=>DI a R m d (H.out.keep hb));clear f1;cases hh:kH d a with
 | false=>
  have HH:Hid ((decide (0<=a) && decide (a<d.sec.length))=false):=jz hh;rw[HH.out] at b0;clear hh;go_enter func312,ntmps312
  go_wp2_with (go_at_call 308;refine(b0 _ a6).mono ?_;rintro e R ⟨rfl,J⟩;rw[J];clear J)
  go_ret;exact⟨rfl,m,H.out.keep a6,DT.of_below a6⟩
 | true=>
  have f2:0<=a/\a<d.sec.length:=by unfold kH at hh;simpa using hh
  have HH:Hid ((decide (0<=a) && decide (a<d.sec.length))=true):=jz hh;rw[HH.out] at b0;clear hh;have HA:=jz ha;have a7:=jz hs;clear ha hs;obtain⟨A0,j,f3,g8,_⟩:=Sn.own H.out.opn;have c5:=jz f3;have HN:=jz (iJ H.out.nd);have c4:Hid (d.opn.length<=d.room):=jz H.out.ok.lo;go_enter func312,ntmps312
  go_wp2_with (go_at_call 308;refine(b0 _ a6).mono ?_;rintro e R ⟨rfl,J⟩;rw[J];clear J)
  obtain⟨R,J⟩:=je (w.alloc (.cells (u8s s).toArray 243));have V:Hid (DK R m d):=jz (by rw[J];exact H.out.keep a6);have b7:Hid (Blk R w.heap.size 243 (u8s s).toArray):=jz (by rw[J];exact Blk.new _ _ _);have a9:Hid (Bw w R):=jz (by rw[J];exact a6);have h4:Hid (DT w m R m):=jz (by rw[J];exact DT.of_below a6);rw[<- J];clear J f3;have HC:Hid (∀ W:Wd,W.heap[m.g]? = R.heap[m.g]?->W.cell? ⟨m.g,2,none⟩=some (.map (some m.bl))/\W.cell? ⟨m.g,1,none⟩=some (.slice A0 d.opn.length j)/\Blk W m.g 151 (eG m d)):=jz (λW hW=>by
   have hB:Blk W m.g 151 (eG m d):=hW.trans V.blk
   exact⟨hB.cell 2,by rw[<- c5.out];exact hB.cell 1,hB⟩)
  have g2:Hid (UM R.drew m.bl d.room (eL d.opn)):=jz V.last;obtain⟨w3,e8,d7,c6⟩:∃ w3,Hid ((Instr.mapUpdate 146 (.map (some m.bl)) (.int .i64 a) (.int .i64 (d.opn.length:Int))).run prog R.drew = .ok () w3)/\Hid (UM w3 m.bl (d.room+1) (lY (eL d.opn) a (.int .i64 (d.opn.length:Int))))/\Hid (R.drew.grownBy w3 (some m.bl)):=by
   obtain⟨w3,h1,h2,h3⟩:=UM.put_run underlying146 g2 HA (.int .i64 (d.opn.length:Int)) (by unfold maxLen;have:=c4.out;omega);exact⟨w3,jz h1,jz h2,jz h3.grown⟩
  have f0:Hid (R.heap.size<=w3.heap.size):=jz c6.size;have c9:Hid (∀ k,k<R.heap.size->k≠m.bl->w3.heap[k]? = R.heap[k]?):=jz (λk hk hn=>c6.block k hk (λe=>hn (Option.some.inj e)));have d0:Hid (w3.heap[m.g]? = R.heap[m.g]?):=jz (c9 m.g V.blk.lt HN.out.1);have f9:Hid (R.drew.cell? ⟨m.g,2,none⟩=some (.map (some m.bl))/\R.drew.cell? ⟨m.g,1,none⟩=some (.slice A0 d.opn.length j)):=jz ⟨(HC R.drew rfl).1,(HC R.drew rfl).2.1⟩;have g0:Hid (w3.cell? ⟨m.g,2,none⟩=some (.map (some m.bl))/\w3.cell? ⟨m.g,1,none⟩=some (.slice A0 d.opn.length j)):=jz ⟨(HC w3 d0).1,(HC w3 d0).2.1⟩;refine bQ 11 (λwz=>wz.cell? ⟨m.g,2,none⟩=some (.map (some m.bl))/\wz.cell? ⟨m.g,1,none⟩=some (.slice A0 d.opn.length j)) (by kernel_rfl) (by kernel_rfl) (f9) (λZ=>?_);refine jM 0 (.tmp 0) (some 11) (.pointer (some ⟨m.g,0,none⟩)) Z ?_;simp only[jq];refine jT 1 (.nilCheck (.tmp 11)) (some 12) (.pointer (some ⟨m.g,0,none⟩)) Z ?_;simp only[jq];refine jT 2 (.fieldAddr 151 (.tmp 12) 2) (some 13) (.pointer (some ⟨m.g,2,none⟩)) Z ?_;simp only[jq];refine jT 3 (.load 146 (.tmp 13)) (some 14) (.map (some m.bl)) (hy:=λo ho wX hX=>by have a8:=hX.1;unfold execOp;simp only[ho];go_simp) Z ?_;simp only[jq];refine jM 4 (.tmp 1) (some 15) (.int .i64 a) Z ?_;simp only[jq];refine jM 5 (.tmp 0) (some 16) (.pointer (some ⟨m.g,0,none⟩)) Z ?_;simp only[jq];refine jT 6 (.nilCheck (.tmp 16)) (some 17) (.pointer (some ⟨m.g,0,none⟩)) Z ?_;simp only[jq];refine jT 7 (.fieldAddr 151 (.tmp 17) 1) (some 18) (.pointer (some ⟨m.g,1,none⟩)) Z ?_;simp only[jq];refine jT 8 (.load 149 (.tmp 18)) (some 19) (.slice A0 d.opn.length j) (hy:=λo ho wX hX=>by have a8:=hX.2;unfold execOp;simp only[ho];go_simp) Z ?_;simp only[jq];refine jT 9 (.call { callee:=Callee.builtin Builtin.len,args:=#[.tmp 19],argTypes:=#[149] }) (some 20) (.int .i64 (d.opn.length:Int)) Z ?_;simp only[jq];refine jW [10] ?_;refine XU 10 (.tmp 14) (.tmp 15) (.tmp 20) none w3 (by kernel_rfl) (by kernel_rfl) (by rfl) (by rfl) (by rfl) e8 g0 ?_ jN;simp only[jq];refine wpAnyH_done (by kernel_rfl) ?_ _;clear Z;go_wp2_with fail
  have h5:m.g<w.heap.size:=d1;have D:Hid (Blk w3 w.heap.size 243 (u8s s).toArray):=jz ((c9 _ b7.lt (λe=>by have:=H.out.last.lt;omega)).trans b7);have f7:Hid (w3.drew.cell? ⟨m.g,1,none⟩=some (.slice A0 d.opn.length j)):=jz (HC w3.drew d0).2.1;have f8:Hid ((w3.alloc (.cells (wrC (a,s)).toArray 363)).drew.cell? ⟨m.g,1,none⟩=some (.slice A0 d.opn.length j)):=jz (HC ((w3.alloc (.cells (wrC (a,s)).toArray 363)).drew) ((Below.heap_alloc w3 _ m.g (by have h1:=f0.out;have h2:=V.blk.lt;omega)).trans d0)).2.1;have d5:Hid (w3.drew.ownsRow 0 363 65 (.slice A0 d.opn.length j) d.opn.length (d.opn.flatMap wrC)):=jz (by
   have h:=aQ (w':=w3.drew) V.opn (λb hb=>c9.out b (V.opn.lt b hb).2 (HN.out.2.2.2.2.2.2.2.1 b hb).2.1)
   rw[c5.out] at h
   exact h)
  have g1:Hid ((prog.info? 243).map (·.size)=some (u8s s).length):=jz (by rw[aF a7.out];kernel_rfl);have d2:Hid (∀(v4:Value) (K:Wd),K.ownsRow 0 363 65 v4 (d.opn.length+1) (d.opn.flatMap wrC++wrC (a,s))->(w3.drew.alloc (.cells (wrC (a,s)).toArray 363)).grownBy K (Value.slice A0 d.opn.length j).ownBlock->(v4.ownBlock=(Value.slice A0 d.opn.length j).ownBlock\/v4.ownBlock=some (w3.drew.alloc (.cells (wrC (a,s)).toArray 363)).heap.size)->Blk K m.g 151 (eG m d)/\Blk K w.heap.size 243 (u8s s).toArray/\DK (K.setCell ⟨m.g,1,none⟩ v4) (DQ m v4) (DS d a s)/\DT w m (K.setCell ⟨m.g,1,none⟩ v4) (DQ m v4)):=jz (λv4 K x b1 I=>by
   rw[<- c5.out] at b1 I
   have h7:w.heap.size<R.heap.size:=b7.lt
   have h8:=f0.out
   have h0:=b1.size
   have f6:(w3.drew.alloc (.cells (wrC (a,s)).toArray 363)).heap.size=w3.heap.size+1:=by simp
   rw[f6] at h0 I
   have e1:∀ k,m.ov.ownBlock=some k->k<w.heap.size:=λk hk=>(H.out.opn.lt k hk).2
   have e0:∀ k,k<w3.heap.size->m.ov.ownBlock≠some k->K.heap[k]? = w3.heap[k]?:=λk hk hn=>(b1.block k (by rw[f6];omega) (λe=>hn e.symm)).trans (Below.heap_alloc w3.drew _ k hk)
   have b4:∀ k,k<w.heap.size->k≠m.bl->m.ov.ownBlock≠some k->K.heap[k]? = w.heap[k]?:=λk hk h1 h2=>(e0 k (by omega) h2).trans ((c9 k (by omega) h1).trans (a9.block k hk))
   have hN:=HN.out
   have U:Blk K m.g 151 (eG m d):=(b4 m.g d1 hN.1 (λe=>(hN.2.2.2.2.2.2.2.1 m.g e).1 rfl)).trans H.out.blk
   have a0:Blk K w.heap.size 243 (u8s s).toArray:=(e0 _ (by omega) (λe=>by have:=e1 _ e;omega)).trans D.out
   have a5:v4.ownBlock=m.ov.ownBlock\/∃ k,v4.ownBlock=some k/\w.heap.size<=k:=by
    rcases I with e|e
    ·exact .inl e
    ·exact .inr ⟨_,e,by omega⟩
   have b5:∀ k,k≠m.g->(K.setCell ⟨m.g,1,none⟩ v4).heap[k]? = K.heap[k]?:=λk hk=>Below.heap_setCell K ⟨m.g,1,none⟩ v4 k hk
   have f5:∀ b,v4.ownBlock=some b->b≠m.g:=λb hb=>by
    rcases a5 with e|⟨q,e,hq⟩
    ·exact(hN.2.2.2.2.2.2.2.1 b (by rw[<- e];exact hb)).1
    ·rw[hb] at e;have:=Option.some.inj e;omega
   have h6:(K.setCell ⟨m.g,1,none⟩ v4).heap.size=K.heap.size:=by simp
   refine⟨U,a0,?_,rfl,⟨b1.os.trans (c6.os.trans a9.os),b1.tape.trans (c6.tape.trans a9.tape),b1.output.trans (c6.output.trans a9.output),by omega,λk hk hn=>?_⟩,DU a5,λ_ _ h=>.inl h⟩
   ·refine H.out.re rfl ([m.g,m.bl]++m.ov.ownBlock.toList) (λk hk=>by
     simp only[ju,jl,j8,or_false,Option.mem_toList] at hk
     rcases hk with (rfl|rfl)|hk
     ·exact iW m
     ·exact oP m
     ·exact uI hk) (λk hk hn=>by
     simp only[ju,jl,j8,or_false,not_or,Option.mem_toList] at hn
     exact(b5 k hn.1.1).trans (b4 k hk hn.1.2 hn.2)) (by omega) (U.set_ 1 _) (aQ H.out.sec λb hb=>?_) ?_ ?_ ?_ ?_ (XV H.out.nd H.out.foot_lt a5) (DU a5) H.out.flv (λk hk=>.inr ⟨rfl,rfl⟩) ?_
    ·exact(b5 b (hN.2.2.2.2.2.2.1 b hb).1).trans (b4 b (H.out.sec.lt b hb).2 (hN.2.2.2.2.2.2.1 b hb).2.1 (hN.2.2.2.2.2.2.2.2 b hb))
    ·show(K.setCell ⟨m.g,1,none⟩ v4).ownsRow 0 _ 65 v4 (d.opn++[(a,s)]).length ((d.opn++[(a,s)]).flatMap wrC)
     rw[jj,List.flatMap_append,List.flatMap_singleton]
     exact aQ x (λb hb=>b5 b (f5 b hb))
    ·show UM _ m.bl (d.room+1) (eL (d.opn++[(a,s)]))
     rw[sQ]
     exact d7.of_block ((b5 m.bl (λe=>hN.1 e.symm)).trans (e0 m.bl d7.lt (λe=>(hN.2.2.2.2.2.2.2.1 m.bl e).2.1 rfl)))
    ·exact(H.out.fl.of_block ((b5 m.bf (λe=>hN.2.1 e.symm)).trans (b4 m.bf H.out.fl.lt (λe=>hN.2.2.2.1 e.symm) (λe=>(hN.2.2.2.2.2.2.2.1 m.bf e).2.2.1 rfl)))).mono (Nat.le_succ _)
    ·exact(H.out.cr.of_block ((b5 m.bc (λe=>hN.2.2.1 e.symm)).trans (b4 m.bc H.out.cr.lt (λe=>hN.2.2.2.2.1 e.symm) (λe=>(hN.2.2.2.2.2.2.2.1 m.bc e).2.2.2 rfl)))).mono (Nat.le_succ _)
    ·have ok:=H.out.ok
     refine⟨ok.sec,λp hp=>?_,ok.few,by have:=ok.lo;simp[DS];omega,Nat.le_succ_of_le ok.st,hr,ok.cl⟩
     have hp:p∈d.opn++[(a,s)]:=hp
     rw[ju,List.mem_singleton] at hp
     rcases hp with hp|rfl
     ·exact ok.opn p hp
     ·exact⟨f2.1,f2.2,a7⟩
   ·exact(b5 k (λe=>hn (by rw[e];exact iW m))).trans (b4 k hk (λe=>hn (by rw[e];exact oP m)) (λe=>hn (uI e))))
  refine bQ 13 (λwz=>Blk wz w.heap.size 243 (u8s s).toArray) (by kernel_rfl) (by kernel_rfl) (D) (λZ=>?_);refine jM 0 (.tmp 0) (some 21) (.pointer (some ⟨m.g,0,none⟩)) Z ?_;simp only[jq];refine jM 1 (.tmp 0) (some 22) (.pointer (some ⟨m.g,0,none⟩)) Z ?_;simp only[jq];refine jT 2 (.nilCheck (.tmp 22)) (some 23) (.pointer (some ⟨m.g,0,none⟩)) Z ?_;simp only[jq];refine jT 3 (.fieldAddr 151 (.tmp 23) 1) (some 24) (.pointer (some ⟨m.g,1,none⟩)) Z ?_;simp only[jq];refine jM 5 (.tmp 1) (some 26) (.int .i64 a) Z ?_;simp only[jq];refine jL 6 243 (.tmp 5) (some 27) (cs:=u8s s) (λ_ hX=>by have h:=Blk.range hX;rw[jt] at h;exact h) underlying243 rfl g1 Z ?_;simp only[jq];refine TU 7 363 #[(0,Operand.tmp 26),(1,Operand.tmp 27)] (some 28) (vs:=[(0,.int .i64 a),(1,.agg (u8s s).toArray)]) (cells:=(wrC (a,s)).toArray) (by kernel_rfl) (by kernel_rfl) (by kernel_rfl) (by kernel_rfl) (by kernel_rfl) (λ_ _ _ h=>h) (by rfl) (O8 a s a7) Z ?_;simp only[jq];refine jW [4,8] ?_;refine jS 4 (.load 149 (.tmp 24)) (some 25) (.slice A0 d.opn.length j) (w3.drew) (hrun:=λo ho=>by have a8:=f7.out;unfold execOp;simp only[ho];go_simp) D ?_ (O3 8 tWr (.tmp 28) (some 29) (by kernel_rfl) (by kernel_rfl) (cs:=wrC (a,s)) (by rfl) (fO (p:=(a,s)) a7) (by decide) ((Below.heap_alloc w3.drew _ _ D.lt).trans D) ?_ jN)
  ·simp only[jq];refine jW [8] ?_;refine O3 8 tWr (.tmp 28) (some 29) (by kernel_rfl) (by kernel_rfl) (cs:=wrC (a,s)) (by rfl) (fO (p:=(a,s)) a7) (by decide) ((Below.heap_alloc w3.drew _ _ D.lt).trans D) ?_ jN;simp only[jq];refine jW [9] ?_;refine XC 9 tWr (.tmp 25) (.tmp 29) (some 30) (by kernel_rfl) (by kernel_rfl) (by rfl) (World.ownsRow.alloc d5 _) (by rfl) (Sn.new w3.drew (wrC (a,s)).toArray 363 65 1 (by rw[js,fO (p:=(a,s)) a7.out])) (uK (a,s)) (by unfold maxLen;have:=c4.out;omega) (by have:=c4.out;omega) (j0 _) (λv4 K x O I=>?_) jN;rw[jt] at x;obtain⟨a4,q4,a5,_,_⟩:=bO x;subst a5;obtain⟨U,a0,a2,a3⟩:=d2.out _ K x O I;refine⟨a0,λg3=>?_⟩;simp only[jq];refine jT 10 (.nilCheck (.tmp 21)) (some 31) (.pointer (some ⟨m.g,0,none⟩)) (by assumption) ?_;simp only[jq];refine jT 11 (.fieldAddr 151 (.tmp 31) 1) (some 32) (.pointer (some ⟨m.g,1,none⟩)) (by assumption) ?_;simp only[jq];refine jW [12] ?_;have a1:=U.cell 1;have c7:=U.frozen 1;simp only[eG,jf,jh,jg,c5.out] at a1;refine BE 12 (Op.store 149 (Operand.tmp 32) (Operand.tmp 30)) none (K.setCell ⟨m.g,1,none⟩ (.slice a4 (d.opn.length+1) q4)) (by kernel_rfl) (by kernel_rfl) (λo ho=>by unfold execOp;simp only[ho];go_simp) ((Below.heap_setCell K ⟨m.g,1,none⟩ _ _ (λe=>Nat.ne_of_gt d1 e)).trans a0) ?_ jN;simp only[jq];refine wpAnyH_done (by kernel_rfl) ?_ _;have c2:=jz a2;have c3:=jz a3;clear x O I U a0 a2 a3 a1 c7;go_wp2_with fail
   go_ret;exact⟨rfl,_,c2,c3⟩
  ·simp only[jq];refine jW [4] ?_;refine jS 4 (.load 149 (.tmp 24)) (some 25) (.slice A0 d.opn.length j) ((w3.alloc (.cells (wrC (a,s)).toArray 363)).drew) (hrun:=λo ho=>by have a8:=f8.out;unfold execOp;simp only[ho];go_simp) ((Below.heap_alloc w3.drew _ _ D.lt).trans D) ?_ jN;simp only[jq];refine jW [9] ?_;refine XC 9 tWr (.tmp 25) (.tmp 29) (some 30) (by kernel_rfl) (by kernel_rfl) (by rfl) (World.ownsRow.alloc d5 _) (by rfl) (Sn.new w3.drew (wrC (a,s)).toArray 363 65 1 (by rw[js,fO (p:=(a,s)) a7.out])) (uK (a,s)) (by unfold maxLen;have:=c4.out;omega) (by have:=c4.out;omega) (j0 _) (λv4 K x O I=>?_) jN;rw[jt] at x;obtain⟨a4,q4,a5,_,_⟩:=bO x;subst a5;obtain⟨U,a0,a2,a3⟩:=d2.out _ K x O I;refine⟨a0,λg3=>?_⟩;simp only[jq];refine jT 10 (.nilCheck (.tmp 21)) (some 31) (.pointer (some ⟨m.g,0,none⟩)) (by assumption) ?_;simp only[jq];refine jT 11 (.fieldAddr 151 (.tmp 31) 1) (some 32) (.pointer (some ⟨m.g,1,none⟩)) (by assumption) ?_;simp only[jq];refine jW [12] ?_;have a1:=U.cell 1;have c7:=U.frozen 1;simp only[eG,jf,jh,jg,c5.out] at a1;refine BE 12 (Op.store 149 (Operand.tmp 32) (Operand.tmp 30)) none (K.setCell ⟨m.g,1,none⟩ (.slice a4 (d.opn.length+1) q4)) (by kernel_rfl) (by kernel_rfl) (λo ho=>by unfold execOp;simp only[ho];go_simp) ((Below.heap_setCell K ⟨m.g,1,none⟩ _ _ (λe=>Nat.ne_of_gt d1 e)).trans a0) ?_ jN;simp only[jq];refine wpAnyH_done (by kernel_rfl) ?_ _;have c2:=jz a2;have c3:=jz a3;clear x O I U a0 a2 a3 a1 c7;go_wp2_with fail
   go_ret;exact⟨rfl,_,c2,c3⟩
def vM(c:Int):Nat:=(min (max c 0) 64).toNat
theorem KA(c:Int):vM c<=64:=by unfold vM;omega
def eP(old data:Wl)(c:Int):Wl:=data.take (vM c)++old.drop (vM c)
theorem rR{old data:Wl}(c:Int)(j:Sec old)(hd:Sec data):Sec (eP old data c):=by
 have h:=KA c;refine⟨by unfold eP;rw[jj,jv,List.length_drop,j.1,hd.1];omega,λb hb=>?_⟩;unfold eP at hb;rw[ju] at hb;rcases hb with hb|hb
 ·exact hd.2 b (j7 hb)
 ·exact j.2 b (List.mem_of_mem_drop hb)
theorem TW(c:Int)(w:Wd):Wc 290 #[.int .i64 c] w λe w'=>e = .returned (.int .i64 (vM c:Nat))/\w'=w:=by
 have h1:((vM c:Nat):Int)=min (max c 0) 64:=by unfold vM;omega
 rw[h1];clear h1;by_cases h0:0<=c
 ·have j:max c 0=c:=by omega
  rw[j];by_cases h64:c<=64
  ·have e2:min c 64=c:=by omega
   rw[e2];go_enter func290,ntmps290
   go_wp2_with fail
   go_ret;exact⟨by first|rfl|(rw[j,e2])|simp[j,e2],rfl⟩
  ·have e2:min c 64=64:=by omega
   rw[e2];go_enter func290,ntmps290
   go_wp2_with fail
   go_ret;exact⟨by first|rfl|(rw[j,e2])|simp[j,e2],rfl⟩
 ·have j:max c 0=0:=by omega
  rw[j];have e2:min (0:Int) 64=0:=by omega
  rw[e2];go_enter func290,ntmps290
  go_wp2_with fail
  go_ret;exact⟨by first|rfl|(rw[j,e2])|simp[j,e2],rfl⟩
section
variable {P : Program} {ops : Array Oper} {Q : Exit -> Act -> Wd -> Prop} {a : Act} {w : Wd}
theorem XX{S:Wd->Prop}{listed:Array Bool}{fuel:Nat}{O:List Nat}(i:Nat){dT sT elem:TypeId}(p q:Operand)(dst:Option Tmp)(hd:(ops[i]?).map (λo=>(o.op,o.dst))=some (.call { callee:=.builtin .copy,args:=#[p,q],argTypes:=#[dT,sT] },dst))(hw:(ops[i]?).map (λo=>Region.wanted o (yielded ops a.tmps))=some true)
  {b off dn dc I x n cap:Nat} {D:Wv} (V:a.eval p = .slice (some ⟨b,off,none⟩) dn dc) (Z:a.eval q = .slice (some ⟨I,x,none⟩) n cap) (hu:P.underlying dT=some (.slice elem)) (hs:(P.info? elem).map (·.size)=some 1) (R:dn<=n) (K:D.length=dn) (hx:∀ j u,D[j]? = some u->w.cell? ⟨I,x+j,none⟩=some u) (ht:w.there b off dn) (h1:∀ u∈D,u.oneCell'=true) (hS:S (w.setCells b off D))
  (h:wpAnyH P .any ops Q S fuel (listed.setIfInBounds i true) (a.put dst (goInt dn)) (w.setCells b off D)) (hr:AllReadyH P .any ops Q S fuel listed a w O):AllReadyH P .any ops Q S fuel listed a w (i :: O):=
 DB i _ dst _ _ hd hw (λo U=>by
  have hrun:=run_copy_cells (P:=P) w dT sT o.type elem b off dn dc ⟨I,x,none⟩ n cap D hu hs (by rw[K];exact(Nat.min_eq_right R).symm) (λj v J=>by rw[Addr.add_mid];exact hx j v J) (λj J=>(ht j (by omega)).1) (λj J=>(ht j (by omega)).2) h1
  rw[K] at hrun
  unfold execOp
  simp only[U,resolve,invoke,builtin,Sem.run_bind,Sem.run_pure,Result.andThen_ok,List.map_toArray,List.map_cons,List.map_nil,V,Z,hrun]) hS h hr
end
theorem PA(old data:Wl)(k:Nat)(j:old.length=64)(hd:data.length=64):
  (((u8s data).take k).zipIdx 0).foldl (fun(cs:Wa) (x:Value×Nat)=>cs.setIfInBounds x.2 x.1) (u8s old).toArray=(u8s (data.take k++old.drop k)).toArray:=by
 have h:=vG [] ((u8s old).take k) ((u8s old).drop k) ((u8s data).take k) (by simp[u8s,j,hd]);simp only[List.nil_append,List.length_nil,List.take_append_drop] at h;rw[h,fN,nL,qH]
theorem PB(old data:Wl)(c:Int)(w:Wd)(U:Sec old)(hd:Sec data):
  Wc 231 #[.agg (u8s old).toArray,.agg (u8s data).toArray,.int .i64 c] w (Rt w (.agg (u8s (eP old data c)).toArray)):=by
 have HO:=jz U;have HD:=jz hd;have R:=jz (rR c U hd);have a0:=jz (λD=>TW c D);have hk:=KA c;have a2:=jz (PA old data (vM c) U.1 hd.1);have a1:Hid (eP old data c=data.take (vM c)++old.drop (vM c)):=jz rfl;clear U hd;obtain⟨k,a6⟩:=je (vM c);rw[<- a6] at hk a2 a1 a0;clear a6;have c9:prog.arrayLen 243=64:=by kernel_rfl
 have c2:Hid (∀(g:Nat) (W:Wd),(Instr.sliceAt 243 (.pointer (some ⟨g,0,none⟩)) none (some (.int .i64 (k:Int))) none).run prog W = .ok (.slice (some ⟨g,0,none⟩) k 64) W):=jz (λg W=>by
  rw[run_sliceAt_array_h W 243 ⟨g,0,none⟩ (by kernel_rfl) .i64 (k:Int) (by omega) (by rw[c9];omega)]
  go_simp)
 go_enter func231,ntmps231
 go_wp2_with (refine al 243 z64 rfl rfl dL ?_)
 obtain⟨D,x⟩:=je (((w.alloc (.cells (u8s old).toArray 243)).alloc (.cells (u8s data).toArray 243)).alloc (.cells z64 243));have O:Hid (Blk D w.heap.size 243 (u8s old).toArray):=jz (by rw[x];exact((Blk.new w _ _).alloc _).alloc _);have a7:Hid (Blk D (w.heap.size+1) 243 (u8s data).toArray):=jz (by rw[x];exact(Blk.newAt _ _ _ _ (by simp)).alloc _);have a8:Hid (Blk D (w.heap.size+1+1) 243 z64):=jz (by rw[x];exact Blk.newAt _ _ _ _ (by simp));have b0:Hid (Bw w D):=jz (by rw[x];exact(((ji _ w).alloc (ja _) _).alloc (by simp) _).alloc (by simp;omega) _);rw[<- x];simp only[World.size_alloc];clear x;have c4:Hid (((u8s data).take k).length=k):=jz (by rw[jv,aF HD.out];omega);have c7:Hid (∀ j u,((u8s data).take k)[j]? = some u->D.drew.cell? ⟨w.heap.size+1,0+j,none⟩=some u):=jz (λj u hj=>by
  have h1:=a7.cell (0+j)
  rw[List.getElem?_take] at hj
  split at hj
  ·exact h1.trans (by rw[Nat.zero_add];simpa using hj)
  ·cases hj)
 have c6:Hid (D.drew.there w.heap.size 0 k):=jz (λj hj=>⟨by
  have h1:=O.cell (0+j)
  have h2:D.drew.cell? ⟨w.heap.size,0+j,none⟩=D.cell? ⟨w.heap.size,0+j,none⟩:=rfl
  rw[h2,h1,Nat.zero_add,Array.getElem?_eq_getElem (by rw[js,aF HO.out];omega)];rfl,O.frozen _⟩)
 have c3:Hid (∀ u∈(u8s data).take k,u.oneCell'=true):=jz (λu hu=>bS _ u (j7 hu));refine bQ 5 (λ_=>True) (by kernel_rfl) (by kernel_rfl) (trivial) (λhH=>?_);refine jM 0 (.tmp 2) (some 7) (.int .i64 c) hH ?_;simp only[jq];refine jT 3 (.slice 243 (.tmp 4) none none none) (some 10) (.slice (some ⟨w.heap.size+1,0,none⟩) 64 64) hH ?_;simp only[jq];refine jW [1] ?_;refine jC 1 (.call { callee:=.value (.func 290),args:=#[.tmp 7],argTypes:=#[3] }) (some 8) 290 (#[.int .i64 c]) ?_ jN;refine(a0 _).mono ?_;rintro e wM ⟨rfl,d0⟩;rw[d0];refine⟨_,rfl,trivial,λhH=>?_⟩;simp only[jq];refine jT 2 (.slice 243 (.tmp 3) none (some (.tmp 8)) none) (some 9) (.slice (some ⟨w.heap.size,0,none⟩) k 64) (hy:=λo U wX hX=>by have d1:=c2.out;unfold execOp;simp only[U];go_simp) hH ?_;simp only[jq];refine jW [4] ?_;refine XX (sT:=68) 4 (.tmp 9) (.tmp 10) (some 11) (by kernel_rfl) (by kernel_rfl) (by rfl) (by rfl) underlying68 (by kernel_rfl) hk c4 c7 c6 c3 trivial ?_ jN;simp only[jq];refine wpAnyH_done (by kernel_rfl) ?_ _;clear hH;obtain⟨w2,J⟩:=je (D.drew.setCells w.heap.size 0 ((u8s data).take k));have K:Hid (Blk w2 w.heap.size 243 (u8s (eP old data c)).toArray):=jz (by
  have h:=dO ((u8s data).take k) 0 D.drew _ O.out
  rw[a2.out,<- a1.out] at h
  rw[J];exact h)
 have V:Hid (Blk w2 (w.heap.size+1+1) 243 z64):=jz (by rw[J];exact(bE (by omega) _ _ _).trans a8);have Z:Hid (Bw w w2):=jz (by rw[J];exact b0.drew.trans (aU (ja _) _ _ _).1);rw[<- J];clear J;have a3:Hid ((prog.info? 243).map (·.size)=some (u8s (eP old data c)).length):=jz (by rw[aF R.out];kernel_rfl);have I:Hid ((prog.info? 243).map (·.size)=some (u8s (eP old data c)).toArray.size/\z64.size=(u8s (eP old data c)).toArray.size/\(u8s (eP old data c)).toArray.all (·.oneCell')=true):=jz ⟨by rw[js,aF R.out];kernel_rfl,by rw[cX,js,aF R.out],dN _⟩;obtain⟨T,hT⟩:=je (u8s (eP old data c));rw[<- hT] at K a3 I;have c5:=jz hT;have b7:Hid (w2.rangeAt w.heap.size 0 T):=jz (by have h:=K.range;rw[jt] at h;exact h);clear hT;go_wp2_with (first
  | (refine ld 243 _ rfl rfl rfl b7 underlying243 rfl a3 ?_)
  | (refine aP 243 (.tmp 6) (.tmp 12) rfl rfl rfl rfl V I.out.1 I.out.2.1 I.out.2.2 ?_;intro w3 a4 a5 _ _;have a9:=jz a4;have b1:=jz a5;clear a4 a5))
 exact bodyPost_ret (results_cell_row rfl _ _ (w.heap.size+1+1) 243 _ (0,0) _ rfl a9 underlying243 rfl I.out.1) rfl ⟨by rw[<- c5.out],Z.trans (b1.mono (by omega))⟩
end Go.Proofs.YtiaigidbcljblaaGreatDoor
