import Derived.Test.YtombncedfleljaaGreatMC2
import Derived.Deep.AppendLies
set_option linter.unusedSimpArgs false
set_option maxRecDepth 100000
set_option maxHeartbeats 40000000
namespace Go.Proofs.YtombncedfleljaaGreat
open Go.RowKit
attribute [local irreducible] wpQuiet wpAnyH
def body(p:List Int):List Int:=pad (beB 2 p.length++p)
def rec(g:Nat)(p:List Int):List Int:=(body p).take 56++(beB 4 (bQ ((body p).take 56++beB 4 g))++beB 4 g)
theorem d8(p:List Int)(h:p.length≤54):(body p).length=64:=qP _ (by rw[List.length_append,bB];omega)
theorem qS{p:List Int}(h:Bys p):Bys (body p):=I0 fun b hb=>by
 rcases List.mem_append.1 hb with hb|hb
 ·exact gF _ _ b hb
 ·exact h b hb
theorem d9(g:Nat)(p:List Int)(h:p.length≤54):(rec g p).length=64:=by
 unfold rec;rw[List.length_append,List.length_append,List.length_take,d8 p h,bB,bB];rfl
theorem lB(l:List Int):bQ l<256 ^ 4:=by unfold bQ;omega
theorem I5(g:Nat)(p:List Int)(h:p.length≤54):
  ((u8s (beB 4 g)).zipIdx 60).foldl (fun(cs:Array Value) (x:Value×Nat)=>cs.setIfInBounds x.2 x.1) (((u8s (beB 4 (bQ ((body p).take 56++beB 4 g)))).zipIdx 56).foldl (fun(cs:Array Value) (x:Value×Nat)=>cs.setIfInBounds x.2 x.1) (u8s (body p)).toArray)=(u8s (rec g p)).toArray:=by
 have hb:=d8 p h;have hs:(u8s (body p)).toArray.size=64:=by simp[u8s,hb]
 have l4:=fun x=>bB 4 x
 have hs2:(((u8s (beB 4 (bQ ((body p).take 56++beB 4 g)))).zipIdx 56).foldl (fun(cs:Array Value) (x:Value×Nat)=>cs.setIfInBounds x.2 x.1) (u8s (body p)).toArray).size=64:=by rw[jJ];exact hs
 apply Array.ext_getElem?;intro i;rw[qQ _ 64 hs2 _ 60 (by rw[aP,l4];omega),qQ _ 64 hs _ 56 (by rw[aP,l4];omega),aP,aP,l4,l4,show(u8s (rec g p)).toArray[i]? = (u8s (rec g p))[i]? by simp];unfold rec;rw[eI,eI];have h56:(u8s ((body p).take 56)).length=56:=by rw[aP,List.length_take,hb];rfl
 by_cases h1:i<56
 ·rw[if_neg (by omega),if_neg (by omega),List.getElem?_append_left (by omega),kP,List.getElem?_take,if_pos h1];simp
 ·rw[List.getElem?_append_right (by omega),h56];by_cases h2:i<60
  ·rw[if_neg (by omega),if_pos (by omega),List.getElem?_append_left (by rw[aP,l4];omega)]
  ·rw[List.getElem?_append_right (by rw[aP,l4];omega),aP,l4];by_cases h3:i<64
   ·rw[if_pos (by omega),show i-56-4=i-60 by omega]
   ·rw[if_neg (by omega),if_neg (by omega),Array.getElem?_eq_none (by rw[hs];omega),List.getElem?_eq_none (by rw[aP,l4];omega)]
theorem cZ{w:World}{g:Nat}{t:TypeId}{cs:Array Value}(h:Blk w g t cs){off n:Nat}(hn:off+n≤cs.size):w.there g off n:=fun j hj=>⟨by
 rw[h.cell,Array.getElem?_eq_getElem (by omega)];rfl,h.frozen _⟩
theorem Sn.of_blk{w:World}{g:Nat}{t:TypeId}{l:List Int}(h:Blk w g t (u8s l).toArray)(i n c:Nat)(hin:i+n≤l.length)(hc:n≤c):Sn w 1 (.slice (some ⟨g,i,none⟩) n c) n (u8s ((l.drop i).take n)):=
 ⟨_,c,rfl,hc,by rw[aP,List.length_take,List.length_drop];omega,fun _=>⟨g,i,rfl,fun j u hj=>by
  rw[h.cell]
  rw[kP,mY,List.getElem?_take] at hj
  split at hj
  ·rw[List.getElem?_drop] at hj
   simpa using hj
  ·cases hj⟩⟩
theorem dA(b:Nat)(vs:List Value)(o:Nat)(w:World):Off b w (w.setCells b o vs):=
 have h:=aO (Nat.le_refl b) vs o w
 ⟨h.1.os,h.1.tape,h.1.output,by rw[h.2];exact Nat.le_refl _,fun k _ hne=>bA hne vs o w⟩
theorem Sn.offAt{w w':World}{b g i n c s:Nat}{xs:List Value}(h:Sn w s (.slice (some ⟨g,i,none⟩) n c) n xs)(ho:Off b w w')(hne:g≠b):Sn w' s (.slice (some ⟨g,i,none⟩) n c) n xs:=by
 obtain⟨A,cap,hv,hc,hl,hx⟩:=h;refine⟨A,cap,hv,hc,hl,fun hp=>?_⟩;obtain⟨b1,off,rfl,hcell⟩:=hx hp;injection hv with hA _ _
 injection hA with hA
 injection hA with h1 h2 _
 subst h1 h2;exact⟨g,i,rfl,fun j u hj=>ho.cell (hcell j u hj) hne⟩
attribute [irreducible] body rec
theorem qT(g:Nat)(vb:Value)(p:List Int)(w:World)(hs:Sn w 1 vb p.length (u8s p))(hb:Bys p)(hp:p.length≤54)(hg:g<4294967296):
  Calls Tryz.prog 101 #[.int .u32 g,vb] w fun e w'=>e = .returned (.tuple #[.agg (u8s (rec g p)).toArray,.bool true])∧Below w.heap.size w w':=by
 obtain⟨A,cap,rfl,hcap,_,_⟩:=id hs;have HS:=jz hs;have HB:=jz hb;have HP54:=jz hp;have hl54:¬(54:Int)<p.length:=by omega
 have hbl:=d8 p hp;have hup:(u8s (body p)).length=64:=by rw[aP,hbl]
 have HG:=jz hg;have hb1:Below w.heap.size w (w.alloc (.cells z64 144)):=(by repeat (first|exact Below.refl _ _|assumption|refine bR ?_ _|refine Below.setCell ?_ (by first|exact Nat.le_refl _|assumption|omega|(simp <;> omega)) _|refine Below.alloc ?_ (by first|exact Nat.le_refl _|assumption|omega|(simp <;> omega)) _));have hB1:=Blk.new w 144 z64;have HS1:=jz (HS.alloc (.cells z64 144));have hsz1:(w.alloc (.cells z64 144)).heap.size=w.heap.size+1:=by simp
 clear hs hb hg;go_enter Tryz.func101,Tryz.ntmps101
 go_wp2_with (refine al 144 z64 rfl rfl cK ?_)
 obtain⟨w1,hw1⟩:=je (w.alloc (.cells z64 144));rw[← hw1] at hb1 hB1 HS1 hsz1 ⊢;clear hw1;refine(gQ 2 p.length w1 (by omega) (by omega) (by omega)).mono ?_;rintro e w2 ⟨vv,rfl,hown2,hb2⟩;obtain⟨g2,c2,e2,_⟩:=hown2.form (by omega);subst e2;have hb20:=aB hb1 hb2;have hB2:=hB1.keep hb2;have HPAR:Hid (Parts (w2.alloc (.cells #[(.slice (some ⟨g2,0,none⟩) 2 c2),.slice A p.length cap] 78)) (.slice (some ⟨w2.heap.size,0,none⟩) 2 2) [((.slice (some ⟨g2,0,none⟩) 2 c2),beB 2 p.length),(.slice A p.length cap,p)]):=jz ⟨Sn.new w2 #[(.slice (some ⟨g2,0,none⟩) 2 c2),.slice A p.length cap] 78 1 2 rfl,fun q hq=>by
  simp only[List.mem_cons,List.not_mem_nil,or_false] at hq
  rcases hq with rfl|rfl
  ·have:=(Sn.own hown2).alloc (.cells #[(.slice (some ⟨g2,0,none⟩) 2 c2),.slice A p.length cap] 78)
   rw[bB]
   exact this
  ·exact(HS1.below hb2).alloc _⟩
 have hbP:Below w2.heap.size w2 (w2.alloc (.cells #[(.slice (some ⟨g2,0,none⟩) 2 c2),.slice A p.length cap] 78)):=(Below.refl _ _).alloc (Nat.le_refl _) _;have hcat:cat [((.slice (some ⟨g2,0,none⟩) 2 c2),beB 2 p.length),(.slice A p.length cap,p)]=beB 2 p.length++p:=by simp[cat]
 have htot:fD [((.slice (some ⟨g2,0,none⟩) 2 c2),beB 2 p.length),(.slice A p.length cap,p)]=(beB 2 p.length++p).length:=by simp[fD]
 have HCAT:=jz (And.intro hcat htot);have hlen2:(beB 2 p.length++p).length≤64:=by rw[List.length_append,bB];omega
 clear hcat htot;go_wp2_with fail
 refine(tU _ [((.slice (some ⟨g2,0,none⟩) 2 c2),beB 2 p.length),(.slice A p.length cap,p)] _ HPAR.out (by simp) (by rw[HCAT.out.2];omega)).mono ?_;rintro e w3 ⟨v3,rfl,hown3,hb3⟩;rw[HCAT.out.1,HCAT.out.2] at hown3;have hb30:=aB hb20 (aB hbP hb3);have hB3:=(hB2.keep hbP).keep hb3;have HS3:=jz (Sn.own hown3);clear hown3 hb3 hbP hB2 hb20 HPAR hown2 hb2 hB1 hb1;go_wp2_with fail
 refine(x6 v3 (beB 2 p.length++p) w3 HS3.out hlen2).mono ?_;rintro e w4 ⟨rfl,hb4⟩;have hb40:=aB hb30 hb4;have hB4:=hB3.keep hb4;have hbody:pad (beB 2 p.length++p)=body p:=by unfold body;rfl
 rw[hbody];have hgw:IntKind.u64.wrap (g:Int)=g:=IntWalk.u64_in _ (by have:=HG.out;omega);have h1:=cS (body p);have hz6:z64.size=(u8s (body p)).toArray.size:=by rw[cN];simp[hup]
 clear hb30 hb4 hB3 hbody HS3;go_wp2_with (first
  | (refine al 144 z64 rfl rfl cK ?_)
  | (refine cR 144 (.tmp 6) (.tmp 22) rfl rfl rfl rfl (by simp only[js,hup];kernel_rfl) hz6 h1 ?_;intro wM hBM hbM hsM))
 have hg8:g<256 ^ 4:=by have:=HG.out;omega
 refine(gQ 4 g wM (by omega) (by omega) hg8).mono ?_;rintro e w5 ⟨vv,rfl,hown5,hb5⟩;obtain⟨gg,cg,e5,_⟩:=hown5.form (by omega);subst e5;have hszM:=hb40.size;have HB5:Hid (Blk w5 w4.heap.size 144 (u8s (body p)).toArray):=jz (Blk.keep hBM hb5);have HB0:Hid (Blk w5 w.heap.size 144 z64):=jz ((hB4.keep hbM).keep hb5);have hb50:=aB (aB hb40 hbM) hb5;have HSG:=jz (Sn.own hown5);have hsz64:(u8s (body p)).toArray.size=64:=by simp[hup]
 have hne:w.heap.size≠w4.heap.size:=by have:=hB4.lt;omega
 have hle6:w.heap.size≤w4.heap.size:=by omega
 have hgne:gg≠w4.heap.size:=by
  have:=hown5.lt gg rfl;omega
 clear hBM hB4 hbM hb5 hown5 hb40 h1 hz6 hsM;have HPA:Hid (Parts (w5.drew.alloc (.cells #[.slice (some ⟨w4.heap.size,0,none⟩) 56 64,(.slice (some ⟨gg,0,none⟩) 4 cg)] 78)) (.slice (some ⟨w5.drew.heap.size,0,none⟩) 2 2) [(.slice (some ⟨w4.heap.size,0,none⟩) 56 64,(body p).take 56),((.slice (some ⟨gg,0,none⟩) 4 cg),beB 4 g)]):=jz ⟨Sn.new w5.drew #[.slice (some ⟨w4.heap.size,0,none⟩) 56 64,(.slice (some ⟨gg,0,none⟩) 4 cg)] 78 1 2 rfl,fun q hq=>by
  simp only[List.mem_cons,List.not_mem_nil,or_false] at hq
  rcases hq with rfl|rfl
  ·have:=Sn.of_blk (HB5.drewN 1) 0 56 64 (by rw[hbl];omega) (by omega)
   have h2:=this.alloc (.cells #[.slice (some ⟨w4.heap.size,0,none⟩) 56 64,(.slice (some ⟨gg,0,none⟩) 4 cg)] 78)
   simp only[List.drop_zero] at h2
   simp only[List.length_take,hbl]
   exact h2
  ·simp only[bB]
   exact Sn.alloc (w:=w5.drew) HSG.out _⟩
 have HPB:Hid (∀ q∈[(Value.slice (some ⟨w4.heap.size,0,none⟩) 56 64,(body p).take 56),((.slice (some ⟨gg,0,none⟩) 4 cg),beB 4 g)],Bys q.2):=jz (fun q hq=>by
  simp only[List.mem_cons,List.not_mem_nil,or_false] at hq
  rcases hq with rfl|rfl
  ·exact fun b hb=>qS HB.out b (List.mem_of_mem_take hb)
  ·exact gF _ _)
 have HPL:Hid (∀ q∈[(Value.slice (some ⟨w4.heap.size,0,none⟩) 56 64,(body p).take 56),((.slice (some ⟨gg,0,none⟩) 4 cg),beB 4 g)],q.2.length<64):=jz (fun q hq=>by
  simp only[List.mem_cons,List.not_mem_nil,or_false] at hq
  rcases hq with rfl|rfl
  ·simp only[List.length_take,hbl];omega
  ·simp only[bB];omega)
 have HCA:Hid (cat [(Value.slice (some ⟨w4.heap.size,0,none⟩) 56 64,(body p).take 56),((.slice (some ⟨gg,0,none⟩) 4 cg),beB 4 g)]=(body p).take 56++beB 4 g):=jz (by simp[cat]);have HCS:=jz (lB ((body p).take 56++beB 4 g));have hcw:IntKind.u64.wrap (bQ ((body p).take 56++beB 4 g):Int)=(bQ ((body p).take 56++beB 4 g):Int):=IntWalk.u64_in _ (by have:=HCS.out;omega);have hlt5:=HB5.lt;go_wp2_with fail
 refine aQ 8 (fun _=>True) (by kernel_rfl) (by kernel_rfl) (trivial) (fun hH=>?_);refine jT 0 (.slice 144 (.tmp 6) (some (.const (.int .i64 56))) none none) (some 27) (.slice (some ⟨w4.heap.size,56,none⟩) 8 8) hH ?_;simp only[jq];refine jT 1 (.slice 144 (.tmp 6) none (some (.const (.int .i64 56))) none) (some 28) (.slice (some ⟨w4.heap.size,0,none⟩) 56 64) hH ?_;simp only[jq];refine jM 2 (.tmp 8) (some 29) (.slice (some ⟨gg,0,none⟩) 4 cg) hH ?_;simp only[jq];refine jW [3] ?_;refine jS 3 (.buildSlice 214 2 #[(0,.tmp 28),(1,.tmp 29)]) (some 30) (.slice (some ⟨w5.drew.heap.size,0,none⟩) 2 2) (w5.drew.alloc (.cells #[.slice (some ⟨w4.heap.size,0,none⟩) 56 64,.slice (some ⟨gg,0,none⟩) 4 cg] 78)) trivial ?_ jN;simp only[jq];refine jW [4] ?_;refine jC 4 (.call { callee:=.value (.func 133),args:=#[.tmp 30],argTypes:=#[214] }) (some 31) 133 (#[.slice (some ⟨w5.drew.heap.size,0,none⟩) 2 2]) ?_ jN;refine(vI _ [(.slice (some ⟨w4.heap.size,0,none⟩) 56 64,(body p).take 56),(.slice (some ⟨gg,0,none⟩) 4 cg,beB 4 g)] _ HPA.out (by simp) HPB.out HPL.out).mono ?_;rintro e w6 ⟨rfl,hb6⟩;rw[HCA.out];refine⟨_,rfl,trivial,fun hH=>?_⟩;simp only[jq];refine jT 5 (.convert 59 80 (.tmp 31)) (some 32) (.int .u64 (bQ ((body p).take 56++beB 4 g))) hH ?_;simp only[jq];refine jW [6] ?_;refine jC 6 (.call { callee:=.value (.func 103),args:=#[.const (.int .i64 4),.tmp 32],argTypes:=#[3,80] }) (some 33) 103 (#[.int .i64 4,.int .u64 (bQ ((body p).take 56++beB 4 g))]) ?_ jN;refine(gQ 4 (bQ ((body p).take 56++beB 4 g)) w6 (by omega) (by omega) HCS.out).mono ?_;rintro e w7 ⟨vc,rfl,hown7,hb7⟩;refine⟨_,rfl,trivial,fun hH=>?_⟩;simp only[jq];have hb57:Below w5.heap.size w5 w7:=aB (aB (((Below.refl w5.heap.size w5).drew).alloc (Nat.le_refl _) (.cells #[.slice (some ⟨w4.heap.size,0,none⟩) 56 64,.slice (some ⟨gg,0,none⟩) 4 cg] 78)) hb6) hb7;have hB7:=HB5.keep hb57;have hth7:=cZ hB7 (by rw[hsz64];exact(by omega:56+4≤64));refine jW [7] ?_;refine KI (sT:=78) 7 (.tmp 27) (.tmp 33) (some 34) (by kernel_rfl) (by kernel_rfl) (by exact rfl) (by exact rfl) Tryz.underlying78 (by kernel_rfl) (Sn.own hown7) (by omega) hth7 (bS _) trivial ?_ jN;simp only[jq];refine wpAnyH_done (by kernel_rfl) ?_ _;have hB0:=HB0.keep hb57;have hSG:=HSG.below hb57;have hbW7:=aB hb50 hb57;clear hb6 hb7 hown7 hth7 HPA HPB HPL HCA hcw;have ho8:=dA w4.heap.size (u8s (beB 4 (bQ ((body p).take 56++beB 4 g)))) 56 w7;have hB8:=dQ (u8s (beB 4 (bQ ((body p).take 56++beB 4 g)))) 56 w7 _ hB7;have hB08:=ho8.blk hB0 hne;have hSG8:=hSG.offAt ho8 hgne;have hb8:=hbW7.trans (aO hle6 (u8s (beB 4 (bQ ((body p).take 56++beB 4 g)))) 56 w7).1;obtain⟨w8,hw8⟩:=je (w7.setCells w4.heap.size 56 (u8s (beB 4 (bQ ((body p).take 56++beB 4 g)))));rw[← hw8] at ho8 hB8 hB08 hSG8 hb8 ⊢;clear hw8 ho8 hB7 hB0 hSG hbW7;have hth8:=cZ hB8 (off:=60) (n:=4) (by rw[jJ,hsz64];exact(by omega:60+4≤64));have ho9:=dA w4.heap.size (u8s (beB 4 g)) 60 w8;have hB9:=dQ (u8s (beB 4 g)) 60 w8 _ hB8;rw[I5 g p hp] at hB9;have hB09:=ho9.blk hB08 hne;have hb9:=hb8.trans (aO hle6 (u8s (beB 4 g)) 60 w8).1;have hr9:=hB9.range;rw[jt] at hr9;have hrl:(u8s (rec g p)).length=64:=by rw[aP,d9 g p hp]
 have hz9:z64.size=(u8s (rec g p)).toArray.size:=by rw[cN];simp[hrl]
 have hr1:=cS (rec g p);have hg1:=bS (beB 4 g);have HB9:=jz hB09;have HR9:=jz hr9;have HT8:=jz hth8;have HS8:=jz hSG8;have HBF:=jz hb9;clear hB9 hB09 hr9 hth8 hSG8 hb9 ho9 hB8 hB08 hb8;go_wp2_with (first
  | (refine cp (.tmp 35) (.tmp 36) rfl rfl rfl rfl Tryz.underlying78 (by kernel_rfl) HS8.out (by omega) HT8.out hg1 ?_)
  | (refine ld 144 _ rfl rfl rfl HR9.out Tryz.underlying144 rfl (by rw[hrl];kernel_rfl) ?_)
  | (refine bC 144 (.tmp 4) (.tmp 38) rfl rfl rfl rfl HB9.out (by simp only[js,hrl];kernel_rfl) hz9 hr1 ?_;intro wZ hBZ hbZ _ _))
 have hrZ:=hBZ.range;rw[jt] at hrZ;refine bodyPost_ret (bI rfl _ rfl hrZ Tryz.underlying144 rfl (by rw[hrl];kernel_rfl)) rfl ⟨rfl,HBF.trans hbZ⟩
end Go.Proofs.YtombncedfleljaaGreat
