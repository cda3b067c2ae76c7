import Derived.Test.YtiaigidbcljblaaGreatDoorMB23
import Derived.Test.YtiaigidbcljblaaGreatDoorMB24
import Derived.Deep.CutBlock
import Derived.Lib.FrozenHead
set_option linter.unusedVariables false
set_option linter.unusedSimpArgs false
set_option maxRecDepth 100000
set_option maxHeartbeats 40000000
namespace Go.Proofs.YtiaigidbcljblaaGreatDoor
open Go.Proofs.Tryz
section
open Go.RowKit Go.Sort
end
section
open Go.RowKit
structure LI(w:Wd)(box:Wa)(m:Value)(L:Bs)(wr:Wd):Prop where
 own:OwnT wr (w.heap.size+1) m L
 bel:Bw w wr
 box:Blk wr w.heap.size 71 box
 size:w.heap.size+1<=wr.heap.size
theorem LI.grown{w:Wd}{box:Wa}{m:Value}{L:Bs}{wr:Wd}(h:LI w box m L wr){v:Value}{L':Bs}{w':Wd}(h1:OwnT w' (w.heap.size+1) v L')(j:wr.grownBy w' m.ownBlock):LI w box v L' w' where
 own:=h1
 bel:=h.bel.grown j (by have:=h.size;omega) (λk x=>by have:=(h.own.lt k x).1;omega)
 box:=(j.block w.heap.size (by have:=h.size;omega) (λe=>by have:=(h.own.lt _ e.symm).1;omega)).trans h.box
 size:=jm h.size j.size
theorem LI.alloc{w:Wd}{box:Wa}{m:Value}{L:Bs}{wr:Wd}(h:LI w box m L wr)(o:Obj):LI w box m L (wr.alloc o) where
 own:=h.own.alloc o
 bel:=h.bel.alloc (by have:=h.size;omega) o
 box:=h.box.alloc o
 size:=by have:=h.size;simp;omega
theorem LI.drewN{w:Wd}{box:Wa}{m:Value}{L:Bs}{wr:Wd}(h:LI w box m L wr)(n:Nat):LI w box m L (wr.drewN n) where
 own:=h.own.drewN n
 bel:=bY h.bel n
 box:=h.box.drewN n
 size:=h.size
end
section
open Go.RowKit Go.ChangeShapes Go.WideShapes Go.Deep
structure RowD where
 kind:Int
 code:Int
 now:Int
 live:Int
 dig:Wl
def bM(r:RowD):Wv:=.int .i64 r.kind :: .int .i64 r.code :: .int .i64 r.now :: .int .i64 r.live :: u8s r.dig
structure RowOk(r:RowD):Prop where
 kind:aD r.kind
 code:aD r.code
 now:aD r.now
 live:aD r.live
 dig:r.dig.length=32
 bytes:∀ b∈r.dig,0<=b/\b<=255
theorem eR{r:RowD}(h:RowOk r):(bM r).length=36:=by simp[bM,u8s,h.dig]
section
variable {H : Type} {enc : TypeId × Value -> H} {w : Wd} {base : Nat} {spare : Nat -> Bool} {held : Bool}
theorem QR:∀ {cs:Wv},(∀ c∈cs,∃ n:Int,c = .int .u8 n/\0<=n/\n<=255)->∃ d:Wl,cs=u8s d/\∀ b∈d,0<=b/\b<=255
 | [],_=>⟨[],rfl,λ_ h=>by cases h⟩
 | c :: cs,h=>by
  obtain⟨n,rfl,x⟩:=h c (by simp);obtain⟨d,rfl,hd⟩:=QR (cs:=cs) (λc j=>h c (by simp[j]));exact⟨n :: d,rfl,λb hb=>by
   rcases List.mem_cons.1 hb with rfl|hb
   ·exact x
   ·exact hd b hb⟩
theorem D9{t fuel n:Nat}{cs:Wv}{x:DataW H×List MemPlace}(ht:prog.underlying t=some (.array n 5))(R:prog.cellsOf t=n)(h:DataW.trod enc prog w base spare held fuel t cs=some x):
  ∃ d:Wl,cs=u8s d/\d.length=n/\∀ b∈d,0<=b/\b<=255:=by
 obtain⟨O,m,_,_,K,Z,hi⟩:=DataW.trod_array ht h;have h1:prog.cellsOf 5=1:=by kernel_rfl
 rw[R] at K;rw[h1] at hi;obtain⟨d,rfl,hd⟩:=QR (cs:=cs) (λc U=>by
  obtain⟨i,D,rfl⟩:=List.getElem_of_mem U
  have j:=hi i (by omega)
  rw[Nat.mul_one] at j
  have e:(cs.drop i).take 1=[cs[i]]:=by rw[List.drop_eq_getElem_cons D];rfl
  rw[e] at j
  have I:O[i]? = some O[i]:=List.getElem?_eq_getElem (by omega)
  rw[I] at j
  obtain⟨k,J,_,V⟩:=DataW.trod_int underlying5 j
  simp only[List.cons.injEq,and_true] at J
  exact⟨k,J,bounds_u8 V⟩)
 exact⟨d,rfl,by simpa [u8s] using K,hd⟩
end
end
section
open Go.RowKit
attribute [local irreducible] wpQuiet wpAnyH
theorem MK(key:Nat->Nat)(D:Nat)(s:List Nat)(A:Option Addr)(cap:Nat)(w:Wd)(n2:bD key)(hu:D<256)(hk:TabK w)(c7:Byn s)(hs:Sn w 1 (.slice A s.length cap) s.length (n8 s))(hl:24<=s.length)(s3:s.length<=1000000):
  Wc 162 #[.agg (arr 16 (c8 key)).toArray,.int .u8 (D:Nat),.slice A s.length cap] w (DW w (mJ key D s)):=by
 have HS:=jz hs;obtain⟨A',t1,hv,m9,_,hx⟩:=id hs;injection hv with hA _ hca
 subst hA hca;obtain⟨b,off,rfl,hr⟩:=hx (by omega);have r5:=jz hr;have a3:=jz (fun(W:Wd) (hb:Bw w W)=>yZ (.slice (some ⟨b,off,none⟩) s.length cap) s W (hs.below hb));rw[decide_eq_true hl] at a3;obtain⟨L,hL⟩:=je s.length;obtain⟨E,hE⟩:∃ E:Nat,E=L-16:=⟨_,rfl⟩;have v4:(L:Int)-16=(E:Int):=by omega
 have r6:E<=L/\8<=E/\E+16=L:=by omega
 have q6:=jz hE;have a0:=jz hL;rw[<- hL] at a3 m9 hl s3 ⊢;obtain⟨PQ,f0⟩:=je (DW w (mJ key D s));have h5:=jz f0;rw[<- f0];obtain⟨w1,a9⟩:=je (w.alloc (.cells (arr 16 (c8 key)).toArray 35));obtain⟨gk,f5⟩:=je w.heap.size;have d5:Hid (Bw w w1):=jz (by rw[a9];exact aG _ _);have g3:Hid (AB w1 gk 35 16 (c8 key)):=jz (by rw[a9,f5];exact Blk.new _ _ _);have s0:prog.arrayLen 308=8:=by kernel_rfl
 have HZ:Hid ((prog.info? 308).map (·.size)=some (arr 8 (c8 (k6 s))).toArray.size/\z8x8.size=(arr 8 (c8 (k6 s))).toArray.size):=jz ⟨by rw[js,aB];kernel_rfl,by rw[show(arr 8 (c8 (k6 s))).toArray.size=8 by simp[arr]];rfl⟩;have a4:Hid ((arr 8 (c8 (k6 s))).toArray.all (·.oneCell')=true):=jz (bW (λ_=>rfl));obtain⟨K,hK⟩:=je ((arr 16 (c8 key)).toArray);obtain⟨M,hM⟩:=je ((arr 8 (c8 (k6 s))).toArray);have HM:=jz hM;rw[<- hK] at a9 ⊢;rw[<- hM] at a3 HZ a4;clear hs hx hr f0 hK hM hE hL;go_enter func162,ntmps162
 go_upto_region 1 with fail
 rw[<- a9,<- f5];clear a9 f5;go_upto_region 5 with (first
  | (go_at_call 218;refine(a3 w1 d5).mono ?_;rintro e w2 ⟨rfl,f1⟩;have f7:=jz (aA d5 f1);have g8:=jz (g3.keep f1);clear f1)
  | (refine al 308 _ rfl rfl AU ?_)
  | (refine bZ 308 (.tmp 8) (.tmp 18) rfl rfl (by rfl) (by rfl) HZ.out.1 HZ.out.2 a4 ?_;intro w3 k0 f2 s4;have f8:=jz (aA f7 f2);have h0:=jz (g8.keep f2)))
 have t2:(0:Int)<=E:=by omega
 have t3:(E:Int)<=L:=by omega
 have t4:E<=L:=r6.1;have t5:E<=cap:=by omega
 have t6:(L:Int)<=cap:=by omega
 have t7:(E:Int)<=cap:=by omega
 have t9:¬L=E:=by omega
 -- region 5
 refine kZ (n:=13) (λW=>Bw w3 W) ((ji _ _).drew) (h:=λhH=>?_);refine qM 0 (.slice (some ⟨b,off,none⟩) L cap) ?_;refine qM 1 (.int .i64 E) ?_;refine qM 2 (.int .i64 E) ?_;refine qM 4 (.slice (some ⟨b,off,none⟩) L cap) ?_;refine qM 5 (.int .i64 E) ?_;refine qM 6 (.slice (some ⟨b,off,none⟩) L cap) ?_;refine qM 8 (.slice (some ⟨b,off,none⟩) L cap) ?_;refine qT 3 (.slice (some ⟨b,off,none⟩) E E) ?_;refine qT 11 (.slice (some ⟨b,off,none⟩) E E) ?_;refine qT 7 (.int .i64 L) ?_;refine qT 9 (.int .i64 L) ?_;refine qT 10 (.slice (some ⟨b,off+E,none⟩) (L-E) (L-E)) ?_;refine qT 12 (.slice (some ⟨b,off+E,none⟩) (L-E) (L-E)) ?_;refine kE (h:=?_)
 -- end of region 5
 obtain⟨w4,b0⟩:=je w3.drew;have b7:Hid (Bw w w4):=jz (by rw[b0];exact aA f8 (ji _ _).drew);have e0:Hid (AB w4 w2.heap.size 308 8 (c8 (k6 s))):=jz (by
  rw[b0]
  have h:Blk w3 w2.heap.size 308 M:=k0
  rw[HM.out] at h
  exact h)
 have h6:Hid (w4.rangeAt gk 0 (arr 16 (c8 key))):=jz (by rw[b0];exact h0.range);obtain⟨gn,n1⟩:=je w2.heap.size;rw[<- n1] at e0 ⊢;rw[<- b0];have h3:Hid ((prog.info? 35).map (·.size)=some (arr 16 (c8 key)).length):=jz (by rw[aB];kernel_rfl);have c5:=jz (AW key w4 n2 (hk.below b7));clear b0 hH k0 f2 s4 n1 f8 h0 f7 g8 d5 g3 a3 HZ a4 s0;have J:Hid ((n8 (mkE key)).length=16/\(n8 (mkM key)).length=32):=jz ⟨by rw[aR];exact fS _ _,by rw[aR];exact kK key⟩;have a1:Hid ((prog.info? 35).map (·.size)=some (n8 (mkE key)).toArray.size/\z8x16.size=(n8 (mkE key)).toArray.size/\(n8 (mkE key)).toArray.all (·.oneCell')=true):=jz ⟨by rw[js,J.out.1];kernel_rfl,by rw[show(n8 (mkE key)).toArray.size=16 by rw[js];exact J.out.1];rfl,all_oneCell_toArray (dO _)⟩;have a2:Hid ((prog.info? 25).map (·.size)=some (n8 (mkM key)).toArray.size/\zC32.size=(n8 (mkM key)).toArray.size/\(n8 (mkM key)).toArray.all (·.oneCell')=true):=jz ⟨by rw[js,J.out.2];kernel_rfl,by rw[show(n8 (mkM key)).toArray.size=32 by rw[js];exact J.out.2];rfl,all_oneCell_toArray (dO _)⟩;obtain⟨cE,f3⟩:=je (n8 (mkE key));obtain⟨cM,f4⟩:=je (n8 (mkM key));have q3:=jz f3;have q4:=jz f4;rw[<- f3] at a1 J c5;rw[<- f4] at a2 J c5;clear f3 f4;go_upto_region 7 with (first
  | (refine ld 35 (.tmp 3) rfl rfl (by rfl) h6 underlying35 rfl h3 ?_)
  | (go_at_call 219;refine c5.mono ?_;rintro e w5 ⟨rfl,s1⟩;have c9:=jz s1)
  | (refine al 35 _ rfl rfl fB ?_)
  | (refine al 25 _ rfl rfl AS ?_)
  | (refine aO 35 (.tmp 13) (.tmp 39) rfl rfl (by rfl) (by rfl) ((Blk.new w5 35 z8x16).alloc _) a1.out.1 a1.out.2.1 a1.out.2.2 ?_;intro w6 k1 m5 n4 s5;have k3:Blk w6 (w5.heap.size+1) 25 zC32:=(n4 _ (by omega)).trans (Blk.newAt _ _ _ _ (by simp)))
  | (show wpList _ _ _ [_] _ _;refine YU ?_))
 unfold Stp;refine aO 25 (.tmp 14) (.tmp 40) rfl rfl (by rfl) (by rfl) k3 a2.out.1 a2.out.2.1 a2.out.2.2 ?_;intro O k2 m6 n6 t0;have d0:Blk O w5.heap.size 35 cE.toArray:=(n6 _ (by omega)).trans k1;have d2:Bw w5 O:=(((ji _ w5).alloc (ja _) _).alloc (by simp) _).trans (m5.trans (m6.mono (by omega)));obtain⟨a5,Z⟩:=je w5.heap.size;have g2:Hid (Blk O a5 35 cE.toArray):=jz (by rw[Z];exact d0);have h4:Hid (Blk O (a5+1) 25 cM.toArray):=jz (by rw[Z];exact k2);have V:Hid (Bw w4 O):=jz (aA c9 d2);rw[<- Z];clear d0 d2 k1 m5 n4 s5 k3 k2 m6 n6 t0 a1 a2 c5 h3 h6 Z c9;have c4:Hid (∀ W,Bw O W->∀ j u,(n8 s)[j]? = some u->W.cell? ⟨b,off+j,none⟩=some u):=jz (λW hW j u R=>j9 hW (j9 V (j9 b7 (r5 j u R))));have h2:Hid (TabK O):=jz ((hk.below b7).below V);clear hk;go_wp2_with fail
 obtain⟨U,b1⟩:=je ((O.alloc (.cells #[.int .u8 (D:Nat)] 5)).alloc (.cells #[.slice (some ⟨O.heap.size,0,none⟩) 1 1,.slice (some ⟨b,off,none⟩) E E] 68));have a7:(dS s).length=E:=by unfold dS;rw[jv,<- a0.out];omega
 have c6:(mQ s).length=L-E:=by unfold mQ;rw[List.length_drop,<- a0.out];omega
 have I:Bw O U:=by rw[b1];exact aA (aG _ _) (aG _ _)
 have m1:Sn U 1 (.slice (some ⟨O.heap.size,0,none⟩) 1 1) 1 (n8 [D]):=by
  have h:=(Sn.new O #[.int .u8 (D:Nat)] 5 1 1 rfl).alloc (.cells #[.slice (some ⟨O.heap.size,0,none⟩) 1 1,.slice (some ⟨b,off,none⟩) E E] 68);rw[<- b1] at h;exact h
 have m2:Sn U 1 (.slice (some ⟨b,off,none⟩) E E) (dS s).length (n8 (dS s)):=by
  rw[a7];refine⟨_,E,rfl,ja _,by rw[aR,a7,Nat.mul_one],λ_=>⟨b,off,rfl,λj u R=>c4.out U I j u ?_⟩⟩;unfold dS n8 at R;rw[List.map_take,List.getElem?_take] at R;split at R
  ·exact R
  ·cases R
 have m3:Sn U 1 (.slice (some ⟨b,off+E,none⟩) (L-E) (L-E)) (mQ s).length (n8 (mQ s)):=by
  rw[c6];refine⟨_,L-E,rfl,ja _,by rw[aR,c6,Nat.mul_one],λ_=>⟨b,off+E,rfl,λj u R=>?_⟩⟩;have h:=c4.out U I (E+j) u (by
   unfold mQ n8 at R
   rw[List.map_drop,List.getElem?_drop,<- a0.out,<- q6.out] at R
   exact R)
  rw[<- Nat.add_assoc] at h;exact h
 have hP:PN U (.slice (some ⟨O.heap.size+1,0,none⟩) 2 2) [(.slice (some ⟨O.heap.size,0,none⟩) 1 1,[D]),(.slice (some ⟨b,off,none⟩) E E,dS s)]:=by
  refine FU _ 2 rfl ?_ (λp hp=>?_) (λp hp=>?_)
  ·have h:=(Blk.newAt (O.alloc (.cells #[.int .u8 (D:Nat)] 5)) 68 #[.slice (some ⟨O.heap.size,0,none⟩) 1 1,.slice (some ⟨b,off,none⟩) E E] (O.heap.size+1) (by simp)).range;rw[<- b1] at h;exact h
  ·simp only[jl,j8,or_false] at hp;rcases hp with rfl|rfl
   ·exact m1
   ·exact m2
  ·simp only[jl,j8,or_false] at hp;rcases hp with rfl|rfl
   ·intro x hx;rw[List.mem_singleton.1 hx];exact hu
   ·exact λx hx=>c7 x (j7 hx)
 have f6:(mkM key).length=32:=kK key;have k4:Sn U 1 (.slice (some ⟨a5+1,0,none⟩) 32 32) (mkM key).length (n8 (mkM key)):=by
  rw[f6];refine⟨_,32,rfl,ja _,by rw[aR,f6],λ_=>⟨a5+1,0,rfl,?_⟩⟩;have h:=(h4.keep I).range;rw[jt,q4.out] at h;exact h
 have d7:=jz (aA b7 (aA V I));have c3:=jz (LP _ _ _ (mkM key) (mQ s) _ U k4 (λx hx=>by unfold mkM at hx;exact jY _ x (j7 hx)) (by omega) hP (by simp) (by
  show([D]++(dS s++[])).length<=_
  rw[jj,jj,a7]
  show 1+(E+0)<=_
  omega) (h2.below I) m3 (λx hx=>c7 x (List.mem_of_mem_drop hx)) (by omega) (by omega))
 have g1:Hid (decide (mQ s=(jB (mkM key) (cL [(Value.slice (some ⟨O.heap.size,0,none⟩) 1 1,[D]),(.slice (some ⟨b,off,none⟩) E E,dS s)])).take (mQ s).length)=decide (mQ s=(jB (mkM key) (D :: dS s)).take 16)):=jz (by
  have e1:cL [(Value.slice (some ⟨O.heap.size,0,none⟩) 1 1,[D]),(.slice (some ⟨b,off,none⟩) E E,dS s)]=D :: dS s:=by
   show [D]++(dS s++[])=_
   rw[List.append_nil];rfl
  rw[e1,c6,show L-E=16 from by omega])
 rw[g1.out] at c3;have q5:Hid (AB U a5 35 16 (c8 (nth (mkE key)))):=jz (by
  have h:=g2.keep I
  have n3:(mkE key).length=16:=fS _ _
  rw[q3.out,AD n3] at h
  exact h)
 have r2:Hid (AB U gn 308 8 (c8 (k6 s))):=jz ((e0.keep V).keep I);have h7:Hid (∀ W,Bw U W->∀ j u,(n8 s)[j]? = some u->W.cell? ⟨b,off+j,none⟩=some u):=jz (λW hW j u R=>c4.out W (aA I hW) j u R);have q7:=jz a7;rw[<- b1];clear b1 a7 c6 I m1 m2 m3 k4 hP f6 g1 h2 c4 h4 g2 V e0 J;have HO:Hid (mJ key D s=if mQ s=(jB (mkM key) (D :: dS s)).take 16 then some (arr (s.length-24) (iN (nth (mkE key)) (nth s) (nth ((dS s).drop 8)) (s.length-24))) else none):=jz (by unfold mJ;rw[jQ (by rw[<- a0.out];omega)]);obtain⟨ok,a8⟩:=je (decide (mQ s=(jB (mkM key) (D :: dS s)).take 16));rw[<- a8] at c3;refine c3.mono ?_;rintro e w9 ⟨rfl,m8⟩;have f9:=jz m8;clear m8 c3;cases ok with
 | false=>
  rw[jQ (of_decide_eq_false a8.symm)] at HO;clear a8;go_wp2_with fail
  first|go_ret2|skip
  rw[h5.out,HO.out];exact⟨aA d7 f9,rfl⟩
 | true=>
  rw[jP (of_decide_eq_true a8.symm)] at HO;clear a8;have v0:(8:Int)<=E:=by omega
  have v3:8<=E:=by omega
  obtain⟨bs,a6⟩:=je ((dS s).drop 8);have c2:Hid (bs.length=E-8):=jz (by rw[a6,List.length_drop,q7.out]);have q2:Hid (bD (nth bs)):=jz (lK (λx hx=>by rw[a6] at hx;exact c7 x (j7 (List.mem_of_mem_drop hx))));obtain⟨X,hX⟩:=je ((if E=8 then some (⟨b,off,none⟩:Addr) else some ⟨b,off+8,none⟩));have h9:Hid (∀ W,Bw U W->Sn W 1 (.slice X (E-8) (E-8)) (E-8) (n8 bs)):=jz (λW hW=>by
   refine⟨_,E-8,rfl,ja _,by rw[aR,c2.out,Nat.mul_one],λhp=>⟨b,off+8,by rw[hX,jQ (by omega)],λj u R=>?_⟩⟩
   have h:=h7.out W hW (8+j) u (by
    rw[a6] at R
    unfold dS n8 at R
    rw[List.map_drop,List.getElem?_drop,List.map_take,List.getElem?_take] at R
    split at R
    ·exact R
    ·cases R)
   rw[<- Nat.add_assoc] at h
   exact h)
  have g0:=jz (fun(W:Wd) (hW:Bw U W)=>LV (nth (mkE key)) (k6 s) bs X (E-8) W (lK (by unfold mkE;exact C3 _ _)) (by unfold k6;split;exact lK c7;exact λ_=>Nat.zero_lt_succ _) q2 (by rw[c2.out];exact h9 W hW) (by rw[c2.out];omega));rw[c2.out] at g0;rw[<- a6] at HO;have r3:Hid (k6 s=nth s):=jz (by unfold k6;rw[jP (by rw[<- a0.out];exact hl)]);have r1:Hid (s.length-24=E-8):=jz (by rw[<- a0.out];omega);clear a6 h7 h9;go_upto_region 9 with fail
  refine kZ (n:=9) (λW=>Bw U W) (aA f9 (ji _ _).drew) (h:=λhH=>?_);refine qL 0 (cs:=arr 16 (c8 (nth (mkE key)))) (λW hW=>(q5.keep hW).range) (aB _ _) ?_;refine qL 1 (cs:=arr 8 (c8 (k6 s))) (λW hW=>(r2.keep hW).range) (aB _ _) ?_;refine qM 2 (.slice (some ⟨b,off,none⟩) E E) ?_;refine qM 3 (.int .i64 E) ?_;refine qM 4 (.int .i64 E) ?_;refine kT 5 (some 54) (.slice X (E-8) (E-8)) (hy:=λW hW=>by
   rw[hX]
   by_cases h8:E=8
   ·subst h8
    unfold execOp
    go_simp
   ·rw[jQ h8]
    unfold execOp
    go_simp) (h:=?_)
  simp only[jq];refine kF 6 (some 55) ((g0 _ hH).mono ?_);rintro e v5 ⟨gb,rfl,m4,n0,d1⟩;have e8:=aA hH d1;refine⟨_,rfl,e8,λr7=>?_⟩;simp only[jq];refine qT 7 (.slice (some ⟨gb,0,none⟩) (E-8) (E-8)) ?_;refine qT 8 (.bool true) ?_;refine kE (h:=?_);have q0:=jz m4;have r0:Hid (w.heap.size<=gb):=jz (jm (jm d7.size hH.size) n0);have q1:=jz (aA d7 e8);clear m4 n0 d1 hH e8 r7;go_wp2_with fail
  first|go_ret2|skip
  rw[h5.out,HO.out,r1.out];refine⟨q1,gb,?_,r0,?_⟩
  ·rw[aB];rfl
  ·have h:=q0.out;rw[r3.out] at h;rw[JU];exact h
theorem qH{key:Nat->Nat}{j:Nat}{s:List Nat}{b:List Nat}(hs:Byn s)(h:mJ key j s=some b):Byn b/\b.length<=s.length:=by
 unfold mJ at h;split at h
 ·cases h
 split at h
 ·injection h with h
  subst h;rw[aB];refine⟨JF (λk=>?_),Nat.sub_le _ _⟩;have D:bD (nth ((dS s).drop 8)):=lK (λx I=>hs x (j7 (List.mem_of_mem_drop I)));unfold iN;split
  ·exact Nat.xor_lt_two_pow (n:=8) (D k) (JQ (lK (C3 _ _)) (AN (lK hs) _ 8) _)
  ·exact D k
 ·cases h
theorem EA(key:Nat->Nat)(j:Nat)(s:List Nat)(v:Value)(w:Wd)(x:bD key)(K:j<256)(J:TabK w)(I:Byn s)(hs:Sn w 1 v s.length (n8 s))(D:s.length<=1000000):
  Wc 162 #[.agg (arr 16 (c8 key)).toArray,.int .u8 (j:Nat),v] w (DW w (mJ key j s)):=by
 obtain⟨A,cap,rfl,_⟩:=id hs;rcases jo s.length 24 with h|h
 ·exact GK key j s _ w hs h
 ·exact MK key j s A cap w x K J I hs h D
end
section
open Go.RowKit
def namesL:List ByteArray:=[⟨#[78,79,78,69]⟩,⟨#[77,65,76,70,79,82,77,69,68]⟩,⟨#[66,65,68,95,73,78,84,69,71,82,73,84,89]⟩,⟨#[84,75,84,95,78,89,86]⟩,⟨#[84,75,84,95,69,88,80,73,82,69,68]⟩,⟨#[66,65,68,77,65,84,67,72]⟩,⟨#[83,75,69,87]⟩,⟨#[81,85,65,82,65,78,84,73,78,69]⟩,⟨#[82,69,80,69,65,84]⟩,⟨#[83,84,79,82,65,71,69]⟩,⟨#[65,67,67,69,80,84]⟩,⟨#[70,65,73,76,69,68]⟩,⟨#[68,79,87,78]⟩,⟨#[70,85,76,76]⟩,⟨#[67,79,82,82,85,80,84]⟩,⟨#[66,65,68]⟩,⟨#[83,89,78,84,65,88]⟩]
def iV(c:Int):ByteArray:=if 0<=c/\c<=16 then namesL.getD c.toNat ByteArray.empty else ByteArray.empty
theorem GX(c:Int)(h:c<0\/16<c):iV c=ByteArray.empty:=by unfold iV;rw[jQ (by omega)]
theorem MM(c:Nat)(h:c<17):([Value.string ⟨#[78,79,78,69]⟩,Value.string ⟨#[77,65,76,70,79,82,77,69,68]⟩,Value.string ⟨#[66,65,68,95,73,78,84,69,71,82,73,84,89]⟩,Value.string ⟨#[84,75,84,95,78,89,86]⟩,Value.string ⟨#[84,75,84,95,69,88,80,73,82,69,68]⟩,Value.string ⟨#[66,65,68,77,65,84,67,72]⟩,Value.string ⟨#[83,75,69,87]⟩,Value.string ⟨#[81,85,65,82,65,78,84,73,78,69]⟩,Value.string ⟨#[82,69,80,69,65,84]⟩,Value.string ⟨#[83,84,79,82,65,71,69]⟩,Value.string ⟨#[65,67,67,69,80,84]⟩,Value.string ⟨#[70,65,73,76,69,68]⟩,Value.string ⟨#[68,79,87,78]⟩,Value.string ⟨#[70,85,76,76]⟩,Value.string ⟨#[67,79,82,82,85,80,84]⟩,Value.string ⟨#[66,65,68]⟩,Value.string ⟨#[83,89,78,84,65,88]⟩])[c] = .string (iV c):=by
 have j:c=0\/c=1\/c=2\/c=3\/c=4\/c=5\/c=6\/c=7\/c=8\/c=9\/c=10\/c=11\/c=12\/c=13\/c=14\/c=15\/c=16:=by omega
 rcases j with rfl|rfl|rfl|rfl|rfl|rfl|rfl|rfl|rfl|rfl|rfl|rfl|rfl|rfl|rfl|rfl|rfl <;> rfl
theorem GY{v:Value}{s:ByteArray}(h:v = .string s):Ending.returned v = .returned (.string s):=by rw[h]
theorem QS(c:Int)(j:c<0\/16<c)(w:Wd):
  Wc 19 #[.int .i64 c] w (Rt w (.string (iV c))):=by
 have x:=jz (GX c j);rcases j with j|j
 all_goals
  go_enter func19,ntmps19
  go_wp2
  go_ret;exact⟨by rw[x.out];rfl,ji _ _⟩
theorem UL(c:Nat)(D:c<=16)(w:Wd):
  Wc 19 #[.int .i64 c] w (Rt w (.string (iV c))):=by
 have x:¬((c:Int)<0):=by omega
 have h1:¬((16:Int)<c):=by omega
 have j:c<17:=by omega
 go_enter func19,ntmps19
 go_wp2
 go_ret;exact⟨GY (MM c j),(by repeat (first|exact ji _ _|assumption|refine bY ?_ _|refine Below.setCell ?_ (by first|exact ja _|assumption|omega|(simp <;> omega)) _|refine Below.alloc ?_ (by first|exact ja _|assumption|omega|(simp <;> omega)) _))⟩
theorem QT(c:Int)(w:Wd):
  Wc 19 #[.int .i64 c] w (Rt w (.string (iV c))):=by
 by_cases h:c<0\/16<c
 ·exact QS c h w
 ·obtain⟨n,rfl⟩:∃ n:Nat,c=n:=⟨c.toNat,by omega⟩;exact UL n (by omega) w
end
section
open Go.RowKit
attribute [local irreducible] wpQuiet wpAnyH
theorem J0(n:Nat)(h:n<=1099511627776)(W:Wd):(convert 3 141 (.int .i64 (n:Int))).run prog W = .ok (.int .u64 (n:Int)) W:=by
 have h1:=run_convert_int (P:=prog) (w:=W) 3 141 .i64 (n:Int) (by kernel_rfl) (by kernel_rfl);have e:prog.intKind 141 = .u64:=by kernel_rfl
 rw[e] at h1;rw[h1,show IntKind.u64.wrap (n:Int)=(n:Int) from by
  unfold IntKind.wrap
  simp[IntKind.signed,IntKind.bits]
  omega]
theorem GZ{w:Wd}{base base' e x s s' n n':Nat}{v v':Value}{K O:Wv}(h:w.ownsRow base e s v n K)(J:w.ownsRow base' x s' v' n' O)(D:x≠e):∀ b,v'.ownBlock=some b->some b≠v.ownBlock:=λb hb=>by
 obtain⟨_,h1|⟨I,cap,j,rfl,_,hg,_⟩⟩:=J
 ·rw[h1.1] at hb;cases hb
 ·injection hb with hb
  subst hb;exact cD h (show Blk w I x j from hg) D
theorem QU(w:Wd)(cs:Wa)(e s n base g:Nat)(hb:base<=w.heap.size)(hs:cs.size=n*s)(j:n<=maxLen)(hg:w.heap.size=g):(w.alloc (.cells cs e)).ownsRow base e s (.slice (some ⟨g,0,none⟩) n n) n cs.toList:=by
 subst hg;refine⟨by rw[jk,hs],.inr ⟨w.heap.size,n,cs,rfl,hb,heap_alloc_new w _,ja _,j,hs,?_⟩⟩;exact List.take_of_length_le (by rw[jk,hs];exact ja _)
theorem wK{w w':Wd}{base base' e j s s' n n':Nat}{v v':Value}{J I:Wv}(hg:w.grownBy w' v.ownBlock)(h:w.ownsRow base e s v n J)(x:w.ownsRow base' j s' v' n' I)(D:j≠e):w'.ownsRow base' j s' v' n' I:=
 aP x (λb hb=>hg.block b (x.lt b hb).2 (GZ h x D b hb))
theorem J1{w:Wd}{A:Option Addr}{cap:Nat}{l:List Bs}(h:Sn w 1 (.slice A l.length cap) l.length (fD l))(k:Nat)(D:k<l.length):∃ b off,A=some ⟨b,off,none⟩/\w.cell? ⟨b,off+k,none⟩=some (.string (cQ l[k])):=by
 obtain⟨J,j,hv,_,_,I⟩:=h;injection hv with hA _ _
 subst hA;obtain⟨b,off,rfl,x⟩:=I (by omega);exact⟨b,off,rfl,x k _ (by simp[fD,D])⟩
theorem wL(n:Nm)(A:Option Addr)(cap:Nat)(w:Wd)(V:NmOk n)(hs:Sn w 1 (.slice A n.parts.length cap) n.parts.length (fD n.parts)):
  Wc 224 #[.agg #[.string (cQ n.realm),.slice A n.parts.length cap]] w (Rt w (.bool true)):=by
 have HN:=jz V;have HS:=jz hs;have HL:=jz (gZ V.realm);have HW:Hid (∀ W,Wc 285 #[.string (cQ n.realm)] W (Rt W (.bool true))):=jz (λW=>by
  have h:=oE n.realm W (by have:=HL.out;omega)
  rw[V.realm] at h
  exact h)
 obtain⟨S,hS⟩:=je (cQ n.realm);rw[<- hS] at HW ⊢;obtain⟨m,hm⟩:=je n.parts.length;have hf:=V.few;rw[<- hm] at hf HS ⊢;have HM:=jz hm;clear V hs hS hm;obtain⟨g,hg⟩:=je w.heap.size;obtain⟨w1,j⟩:=je (w.alloc (.cells #[.string S,.slice A m cap] 121));have I:Hid (Bw w w1):=jz (by rw[j];exact aG _ _);have x:Hid (Blk w1 g 121 #[.string S,.slice A m cap]):=jz (by rw[j,hg];exact Blk.new _ _ _);go_enter func224,ntmps224
 go_upto_region 1 with fail
 rw[<- j,<- hg];clear j hg;have c0:=x.cell 0;simp only[jf,jg] at c0;go_wp2_with fail
 refine(HW w1).mono ?_;rintro e w2 ⟨rfl,D⟩;have K:=jz (x.keep D);have J:=jz (aA I D);clear D c0;have c1:=K.cell 1;simp only[jf,jh,jg] at c1;have t1:¬(m:Int)<1:=by omega
 have t2:¬(8:Int)<m:=by omega
 go_wp2_with fail
 go_loopw [24] (λi wr=>∃ k:Nat,k<=m/\i = .int .i64 k/\Hid (Bw w wr)) (λi _=>m-(intOf i).toNat)
 case atStart=>exact⟨0,j0 _,rfl,J⟩
 case round=>
  clear J K I x c1 HW;obtain⟨k,hk,rfl,Z⟩:=hrel;rcases jo k m with a1|a3
  ·have U:k<n.parts.length:=by rw[<- HM.out];exact a1
   obtain⟨b,off,rfl,hc⟩:=J1 (w:=wr) (A:=A) (cap:=cap) (by rw[<- HM.out];exact HS.below Z) k U;have hw:=HN.parts _ (List.getElem_mem U);have a2:=gZ hw;have O:Hid (Wc 285 #[.string (cQ n.parts[k])] wr (Rt wr (.bool true))):=jz (by
    have h:=oE n.parts[k] wr (by omega)
    rw[hw] at h
    exact h)
   obtain⟨T,hT⟩:=je (cQ n.parts[k]);rw[<- hT] at hc O;have a4:(0:Int)<=k:=by omega
   have a5:(k:Int)<m:=by omega
   clear hT hw a2;go_wp2_with fail
   refine O.mono ?_;rintro e w3 ⟨rfl,R⟩;have a0:=jz (aA Z R);clear R;go_wp2_with fail
   exact⟨⟨k+1,by omega,by go_num,a0⟩,by simp[intOf];omega⟩
  ·obtain rfl:k=m:=by omega
   go_wp2_with fail
   go_ret;exact⟨rfl,Z⟩
theorem QV(b:List Nat)(v:Value)(w:Wd)(hs:Sn w 1 v b.length (n8 b))(hl:b.length<256):
  Wc 225 #[.int .i64 1,v] w λe w'=>∃ y,e = .returned (.tuple #[y,.bool true])/\w'.ownsRow w.heap.size 5 1 y (b.length+1) (n8 (b.length :: b))/\Bw w w':=by
 obtain⟨A,cap,rfl,_⟩:=id hs;have HS:=jz hs;obtain⟨n,hn⟩:=je b.length;have HN:=jz (k9 1 n w (by omega) (by omega) (by omega));have a5:=J0 n (by omega);have V:=jz hn;rw[<- hn] at HS hl ⊢;have U:=jz hl;clear hs hl hn;have e1:((1:Nat):Int)=1:=rfl;rw[e1] at HN;clear e1;go_enter func225,ntmps225
 go_wp2_with fail
 refine HN.mono ?_;rintro e w1 ⟨v1,rfl,I,a0⟩;obtain⟨J,c1,rfl,_,_⟩:=bN I;have Z:=jz I;have K:=jz a0;clear I a0 HN a5;go_wp2_with fail
 obtain⟨w2,x⟩:=je (w1.alloc (.cells #[.slice J 1 c1,.slice A n cap] 68));have j:Bw w1 w2:=by rw[x];exact aG _ _
 have hP:Parts w2 (.slice (some ⟨w1.heap.size,0,none⟩) 2 2) [(.slice J 1 c1,beB 1 n),(.slice A n cap,cT b)]:=by
  refine⟨?_,λp hp=>?_⟩
  ·have h:=Sn.new w1 #[.slice J 1 c1,.slice A n cap] 68 1 2 rfl;rw[<- x] at h;exact h
  ·simp only[jl,j8,or_false] at hp;rcases hp with rfl|rfl
   ·have h:=(Sn.own Z).below j;simp only[bQ];exact h
   ·have h:=HS.below (aA K j);simp only[aU,<- V.out];rw[<- fH];exact h
 have D:Hid (d6 [(Value.slice J 1 c1,beB 1 n),(.slice A n cap,cT b)]=n+1):=jz (by
  unfold d6
  simp only[List.map_cons,List.map_nil,List.sum_cons,List.sum_nil,bQ,aU,<- V.out]
  omega)
 have R:Hid (u8s (cat [(Value.slice J 1 c1,beB 1 n),(.slice A n cap,cT b)])=n8 (n :: b)):=jz (by
  have h1:beB 1 n=[((n % 256:Nat):Int)]:=by unfold beB;simp[beB]
  have h2:n % 256=n:=Nat.mod_eq_of_lt U.out
  show u8s (beB 1 n++(cT b++[]))=_
  rw[List.append_nil,fK,<- fH,h1,h2]
  rfl)
 have HJ:=jz (lP _ _ w2 hP (by simp) (by rw[D.out];have:=U.out;omega));rw[D.out,R.out] at HJ;have O:=jz (aA K j);rw[<- x];clear x hP j D R Z;refine HJ.mono ?_;rintro e w3 ⟨y,rfl,a2,a1⟩;have a4:=jz (bE a2 O.size);have a3:=jz (aA O a1);clear a2 a1 HJ;go_wp2_with fail
 first|go_ret2|skip
 exact⟨y,rfl,a4,a3⟩
end
section
open Go.RowKit
def EB(r:RowD):List UInt8:=eI r.kind++[32]++(iV r.code).data.toList++[32]++Lib.itoa r.now++[32]++Lib.itoa r.live++[10]
def fW(l:List RowD):List UInt8:=l.flatMap EB
theorem G0(l:List RowD)(k:Nat)(h:k<l.length):fW (l.take (k+1))=fW (l.take k)++EB l[k]:=by
 unfold fW;rw[j6 h,List.flatMap_append];simp
theorem EC(c:Int):(iV c).size<=13:=by
 unfold iV;split
 ·rename_i h;obtain⟨n,rfl⟩:∃ n:Nat,c=n:=⟨c.toNat,by omega⟩;have j:n=0\/n=1\/n=2\/n=3\/n=4\/n=5\/n=6\/n=7\/n=8\/n=9\/n=10\/n=11\/n=12\/n=13\/n=14\/n=15\/n=16:=by omega
  rcases j with rfl|rfl|rfl|rfl|rfl|rfl|rfl|rfl|rfl|rfl|rfl|rfl|rfl|rfl|rfl|rfl|rfl <;> decide
 ·decide
theorem ED(k:Int):(eI k).length<=7:=by
 unfold eI
 repeat (first|split|decide)
theorem MN(r:RowD)(h1:aD r.now)(j:aD r.live):(EB r).length<=64:=by
 have a:=pZ r.now h1.1 h1.2;have b:=pZ r.live j.1 j.2;have c:=ED r.kind;have d:=EC r.code;have e:(iV r.code).data.toList.length=(iV r.code).size:=by rw[jk];rfl
 simp only[EB,jj,List.length_cons,List.length_nil,e];omega
theorem MO(l:List RowD)(h:∀ r∈l,aD r.now/\aD r.live):(fW l).length<=64*l.length:=by
 induction l with
 | nil=>simp[fW]
 | cons f fs ih=>
  have h1:=MN f (h f (by simp)).1 (h f (by simp)).2;have j:=ih (λg hg=>h g (by simp[hg]));unfold fW at j ⊢;rw[List.flatMap_cons,jj,List.length_cons];omega
end
end Go.Proofs.YtiaigidbcljblaaGreatDoor
