import Derived.Test.YtiaigidbcljblaaGreatDoorME2
import Derived.Test.YtiaigidbcljblaaGreatDoorME3
import Derived.Deep.AppendLies
set_option linter.unusedSimpArgs false
set_option maxRecDepth 100000
set_option maxHeartbeats 40000000
namespace Go.Proofs.YtiaigidbcljblaaGreatDoor
open Go.RowKit
attribute [local irreducible] wpQuiet wpAnyH
def body(p:List Int):List Int:=pad (beB 2 p.length++p)
def rec(g:Nat)(p:List Int):List Int:=(body p).take 56++(beB 4 (crcSum ((body p).take 56++beB 4 g))++beB 4 g)
theorem body_length(p:List Int)(h:p.length≤54):(body p).length=64:=pad_length _ (by rw[List.length_append,beB_length];omega)
theorem body_bys{p:List Int}(h:Bys p):Bys (body p):=pad_bys fun b hb=>by
 rcases List.mem_append.1 hb with hb|hb
 ·exact beB_bys _ _ b hb
 ·exact h b hb
theorem rec_length(g:Nat)(p:List Int)(h:p.length≤54):(rec g p).length=64:=by
 unfold rec
 rw[List.length_append,List.length_append,List.length_take,body_length p h,beB_length,beB_length];rfl
theorem crcSum_lt(l:List Int):crcSum l<256 ^ 4:=by unfold crcSum;omega
theorem rec_put(g:Nat)(p:List Int)(h:p.length≤54):
  ((u8s (beB 4 g)).zipIdx 60).foldl (fun(cs:Array Value) (x:Value×Nat)=>cs.setIfInBounds x.2 x.1) (((u8s (beB 4 (crcSum ((body p).take 56++beB 4 g)))).zipIdx 56).foldl (fun(cs:Array Value) (x:Value×Nat)=>cs.setIfInBounds x.2 x.1) (u8s (body p)).toArray)=(u8s (rec g p)).toArray:=by
 have hb:=body_length p h
 have hs:(u8s (body p)).toArray.size=64:=by simp[u8s,hb]
 have l4:=fun x=>beB_length 4 x
 have hs2:(((u8s (beB 4 (crcSum ((body p).take 56++beB 4 g)))).zipIdx 56).foldl (fun(cs:Array Value) (x:Value×Nat)=>cs.setIfInBounds x.2 x.1) (u8s (body p)).toArray).size=64:=by rw[build_size];exact hs
 apply Array.ext_getElem?
 intro i
 rw[put_many _ 64 hs2 _ 60 (by rw[u8s_length,l4];omega),put_many _ 64 hs _ 56 (by rw[u8s_length,l4];omega),u8s_length,u8s_length,l4,l4,show(u8s (rec g p)).toArray[i]? = (u8s (rec g p))[i]? by simp]
 unfold rec
 rw[u8s_append,u8s_append]
 have h56:(u8s ((body p).take 56)).length=56:=by rw[u8s_length,List.length_take,hb];rfl
 by_cases h1:i<56
 ·rw[if_neg (by omega),if_neg (by omega),List.getElem?_append_left (by omega),u8s_take,List.getElem?_take,if_pos h1]
  simp
 ·rw[List.getElem?_append_right (by omega),h56]
  by_cases h2:i<60
  ·rw[if_neg (by omega),if_pos (by omega),List.getElem?_append_left (by rw[u8s_length,l4];omega)]
  ·rw[List.getElem?_append_right (by rw[u8s_length,l4];omega),u8s_length,l4]
   by_cases h3:i<64
   ·rw[if_pos (by omega),show i-56-4=i-60 by omega]
   ·rw[if_neg (by omega),if_neg (by omega),Array.getElem?_eq_none (by rw[hs];omega),List.getElem?_eq_none (by rw[u8s_length,l4];omega)]
theorem there_blk{w:World}{g:Nat}{t:TypeId}{cs:Array Value}(h:Blk w g t cs){off n:Nat}(hn:off+n≤cs.size):w.there g off n:=fun j hj=>⟨by
 rw[h.cell,Array.getElem?_eq_getElem (by omega)];rfl,h.frozen _⟩
theorem Sn.of_blk{w:World}{g:Nat}{t:TypeId}{l:List Int}(h:Blk w g t (u8s l).toArray)(i n c:Nat)(hin:i+n≤l.length)(hc:n≤c):Sn w 1 (.slice (some ⟨g,i,none⟩) n c) n (u8s ((l.drop i).take n)):=
 ⟨_,c,rfl,hc,by rw[u8s_length,List.length_take,List.length_drop];omega,fun _=>⟨g,i,rfl,fun j u hj=>by
  rw[h.cell]
  rw[u8s_take,u8s_drop,List.getElem?_take] at hj
  split at hj
  ·rw[List.getElem?_drop] at hj
   simpa using hj
  ·cases hj⟩⟩
theorem setCells_off(b:Nat)(vs:List Value)(o:Nat)(w:World):Off b w (w.setCells b o vs):=
 have h:=setCells_below (Nat.le_refl b) vs o w
 ⟨h.1.os,h.1.tape,h.1.output,by rw[h.2];exact Nat.le_refl _,fun k _ hne=>setCells_other hne vs o w⟩
theorem Sn.offAt{w w':World}{b g i n c s:Nat}{xs:List Value}(h:Sn w s (.slice (some ⟨g,i,none⟩) n c) n xs)(ho:Off b w w')(hne:g≠b):Sn w' s (.slice (some ⟨g,i,none⟩) n c) n xs:=by
 obtain⟨A,cap,hv,hc,hl,hx⟩:=h
 refine⟨A,cap,hv,hc,hl,fun hp=>?_⟩
 obtain⟨b1,off,rfl,hcell⟩:=hx hp
 injection hv with hA _ _
 injection hA with hA
 injection hA with h1 h2 _
 subst h1 h2
 exact⟨g,i,rfl,fun j u hj=>ho.cell (hcell j u hj) hne⟩
attribute [irreducible] body rec
theorem frame_make(g:Nat)(vb:Value)(p:List Int)(w:World)(hs:Sn w 1 vb p.length (u8s p))(hb:Bys p)(hp:p.length≤54)(hg:g<4294967296):
  Calls Tryz.prog 313 #[.int .u32 g,vb] w fun e w'=>e = .returned (.tuple #[.agg (u8s (rec g p)).toArray,.bool true])∧Below w.heap.size w w':=by
 obtain⟨A,cap,rfl,hcap,_,_⟩:=id hs
 have HS:=Lib.hid hs
 have HB:=Lib.hid hb
 have HP54:=Lib.hid hp
 have hl54:¬(54:Int)<p.length:=by omega
 have hbl:=body_length p hp
 have hup:(u8s (body p)).length=64:=by rw[u8s_length,hbl]
 have HG:=Lib.hid hg
 have hb1:Below w.heap.size w (w.alloc (.cells z64 243)):=(by repeat (first|exact Below.refl _ _|assumption|refine bdrewN ?_ _|refine Below.setCell ?_ (by first|exact Nat.le_refl _|assumption|omega|(simp <;> omega)) _|refine Below.alloc ?_ (by first|exact Nat.le_refl _|assumption|omega|(simp <;> omega)) _))
 have hB1:=Blk.new w 243 z64
 have HS1:=Lib.hid (HS.alloc (.cells z64 243))
 have hsz1:(w.alloc (.cells z64 243)).heap.size=w.heap.size+1:=by simp
 clear hs hb hg
 go_enter Tryz.func313,Tryz.ntmps313
 go_wp2_with (refine al 243 z64 rfl rfl zero64 ?_)
 obtain⟨w1,hw1⟩:∃ w1,w1=w.alloc (.cells z64 243):=⟨_,rfl⟩
 rw[← hw1] at hb1 hB1 HS1 hsz1 ⊢
 clear hw1
 refine(frame_number 2 p.length w1 (by omega) (by omega) (by omega)).mono ?_
 rintro e w2 ⟨vv,rfl,hown2,hb2⟩
 obtain⟨g2,c2,e2,_⟩:=hown2.form (by omega)
 subst e2
 have hb20:=bstep hb1 hb2
 have hB2:=hB1.keep hb2
 have HPAR:Hid (Parts (w2.alloc (.cells #[(.slice (some ⟨g2,0,none⟩) 2 c2),.slice A p.length cap] 68)) (.slice (some ⟨w2.heap.size,0,none⟩) 2 2) [((.slice (some ⟨g2,0,none⟩) 2 c2),beB 2 p.length),(.slice A p.length cap,p)]):=Lib.hid ⟨Sn.new w2 #[(.slice (some ⟨g2,0,none⟩) 2 c2),.slice A p.length cap] 68 1 2 rfl,fun q hq=>by
  simp only[List.mem_cons,List.not_mem_nil,or_false] at hq
  rcases hq with rfl|rfl
  ·have:=(Sn.own hown2).alloc (.cells #[(.slice (some ⟨g2,0,none⟩) 2 c2),.slice A p.length cap] 68)
   rw[beB_length]
   exact this
  ·exact(HS1.below hb2).alloc _⟩
 have hbP:Below w2.heap.size w2 (w2.alloc (.cells #[(.slice (some ⟨g2,0,none⟩) 2 c2),.slice A p.length cap] 68)):=(Below.refl _ _).alloc (Nat.le_refl _) _
 have hcat:cat [((.slice (some ⟨g2,0,none⟩) 2 c2),beB 2 p.length),(.slice A p.length cap,p)]=beB 2 p.length++p:=by simp[cat]
 have htot:total [((.slice (some ⟨g2,0,none⟩) 2 c2),beB 2 p.length),(.slice A p.length cap,p)]=(beB 2 p.length++p).length:=by simp[total]
 have HCAT:=Lib.hid (And.intro hcat htot)
 have hlen2:(beB 2 p.length++p).length≤64:=by rw[List.length_append,beB_length];omega
 clear hcat htot
 go_wp2_with fail
 refine(wire_join _ [((.slice (some ⟨g2,0,none⟩) 2 c2),beB 2 p.length),(.slice A p.length cap,p)] _ HPAR.out (by simp) (by rw[HCAT.out.2];omega)).mono ?_
 rintro e w3 ⟨v3,rfl,hown3,hb3⟩
 rw[HCAT.out.1,HCAT.out.2] at hown3
 have hb30:=bstep hb20 (bstep hbP hb3)
 have hB3:=(hB2.keep hbP).keep hb3
 have HS3:=Lib.hid (Sn.own hown3)
 clear hown3 hb3 hbP hB2 hb20 HPAR hown2 hb2 hB1 hb1
 go_wp2_with fail
 refine(sector_make v3 (beB 2 p.length++p) w3 HS3.out hlen2).mono ?_
 rintro e w4 ⟨rfl,hb4⟩
 have hb40:=bstep hb30 hb4
 have hB4:=hB3.keep hb4
 have hbody:pad (beB 2 p.length++p)=body p:=by unfold body;rfl
 rw[hbody]
 have hgw:IntKind.u64.wrap (g:Int)=g:=IntWalk.u64_in _ (by have:=HG.out;omega)
 have h1:=u8s_one (body p)
 have hz6:z64.size=(u8s (body p)).toArray.size:=by rw[z64_size];simp[hup]
 clear hb30 hb4 hB3 hbody HS3
 go_wp2_with (first
  | (refine al 243 z64 rfl rfl zero64 ?_)
  | (refine stNew 243 (.tmp 6) (.tmp 22) rfl rfl rfl rfl (by simp only[List.size_toArray,hup];kernel_rfl) hz6 h1 ?_;intro wM hBM hbM hsM))
 have hg8:g<256 ^ 4:=by have:=HG.out;omega
 refine(frame_number 4 g wM (by omega) (by omega) hg8).mono ?_
 rintro e w5 ⟨vv,rfl,hown5,hb5⟩
 obtain⟨gg,cg,e5,_⟩:=hown5.form (by omega)
 subst e5
 have hszM:=hb40.size
 have HB5:Hid (Blk w5 w4.heap.size 243 (u8s (body p)).toArray):=Lib.hid (Blk.keep hBM hb5)
 have HB0:Hid (Blk w5 w.heap.size 243 z64):=Lib.hid ((hB4.keep hbM).keep hb5)
 have hb50:=bstep (bstep hb40 hbM) hb5
 have HSG:=Lib.hid (Sn.own hown5)
 have hsz64:(u8s (body p)).toArray.size=64:=by simp[hup]
 have hne:w.heap.size≠w4.heap.size:=by have:=hB4.lt;omega
 have hle6:w.heap.size≤w4.heap.size:=by omega
 have hgne:gg≠w4.heap.size:=by
  have:=hown5.lt gg rfl
  omega
 clear hBM hB4 hbM hb5 hown5 hb40 h1 hz6 hsM
 have HPA:Hid (Parts (w5.drew.alloc (.cells #[.slice (some ⟨w4.heap.size,0,none⟩) 56 64,(.slice (some ⟨gg,0,none⟩) 4 cg)] 68)) (.slice (some ⟨w5.drew.heap.size,0,none⟩) 2 2) [(.slice (some ⟨w4.heap.size,0,none⟩) 56 64,(body p).take 56),((.slice (some ⟨gg,0,none⟩) 4 cg),beB 4 g)]):=Lib.hid ⟨Sn.new w5.drew #[.slice (some ⟨w4.heap.size,0,none⟩) 56 64,(.slice (some ⟨gg,0,none⟩) 4 cg)] 68 1 2 rfl,fun q hq=>by
  simp only[List.mem_cons,List.not_mem_nil,or_false] at hq
  rcases hq with rfl|rfl
  ·have:=Sn.of_blk (HB5.drewN 1) 0 56 64 (by rw[hbl];omega) (by omega)
   have h2:=this.alloc (.cells #[.slice (some ⟨w4.heap.size,0,none⟩) 56 64,(.slice (some ⟨gg,0,none⟩) 4 cg)] 68)
   simp only[List.drop_zero] at h2
   simp only[List.length_take,hbl]
   exact h2
  ·simp only[beB_length]
   exact Sn.alloc (w:=w5.drew) HSG.out _⟩
 have HPB:Hid (∀ q∈[(Value.slice (some ⟨w4.heap.size,0,none⟩) 56 64,(body p).take 56),((.slice (some ⟨gg,0,none⟩) 4 cg),beB 4 g)],Bys q.2):=Lib.hid (fun q hq=>by
  simp only[List.mem_cons,List.not_mem_nil,or_false] at hq
  rcases hq with rfl|rfl
  ·exact fun b hb=>body_bys HB.out b (List.mem_of_mem_take hb)
  ·exact beB_bys _ _)
 have HPL:Hid (∀ q∈[(Value.slice (some ⟨w4.heap.size,0,none⟩) 56 64,(body p).take 56),((.slice (some ⟨gg,0,none⟩) 4 cg),beB 4 g)],q.2.length<64):=Lib.hid (fun q hq=>by
  simp only[List.mem_cons,List.not_mem_nil,or_false] at hq
  rcases hq with rfl|rfl
  ·simp only[List.length_take,hbl];omega
  ·simp only[beB_length];omega)
 have HCA:Hid (cat [(Value.slice (some ⟨w4.heap.size,0,none⟩) 56 64,(body p).take 56),((.slice (some ⟨gg,0,none⟩) 4 cg),beB 4 g)]=(body p).take 56++beB 4 g):=Lib.hid (by simp[cat])
 have HCS:=Lib.hid (crcSum_lt ((body p).take 56++beB 4 g))
 have hcw:IntKind.u64.wrap (crcSum ((body p).take 56++beB 4 g):Int)=(crcSum ((body p).take 56++beB 4 g):Int):=IntWalk.u64_in _ (by have:=HCS.out;omega)
 have hlt5:=HB5.lt
 go_wp2_with fail
 refine held_start 8 (fun _=>True) (by kernel_rfl) (by kernel_rfl) (trivial) (fun hHeld=>?_)
 refine hTake 0 (Op.slice 243 (Operand.tmp 6) (some (Operand.const (Value.int IntKind.i64 56))) none none) (some 27) (.slice (some ⟨w4.heap.size,56,none⟩) 8 8) (by kernel_rfl) (by kernel_rfl) (by kernel_rfl) (by kernel_rfl) (by kernel_rfl) (fun _ _ _ h=>h) (fun o ho wX hX=>by unfold execOp;simp only[ho];go_simp) hHeld ?_
 simp only[Act.put,List.setIfInBounds_toArray,List.set_cons_zero,List.set_cons_succ]
 refine hTake 1 (Op.slice 243 (Operand.tmp 6) none (some (Operand.const (Value.int IntKind.i64 56))) none) (some 28) (.slice (some ⟨w4.heap.size,0,none⟩) 56 64) (by kernel_rfl) (by kernel_rfl) (by kernel_rfl) (by kernel_rfl) (by kernel_rfl) (fun _ _ _ h=>h) (fun o ho wX hX=>by unfold execOp;simp only[ho];go_simp) hHeld ?_
 simp only[Act.put,List.setIfInBounds_toArray,List.set_cons_zero,List.set_cons_succ]
 refine hMove 2 (Operand.tmp 8) (some 29) (.slice (some ⟨gg,0,none⟩) 4 cg) (by kernel_rfl) (by kernel_rfl) (by kernel_rfl) (by kernel_rfl) (by kernel_rfl) (fun _ _ _ h=>h) (by exact rfl) hHeld ?_
 simp only[Act.put,List.setIfInBounds_toArray,List.set_cons_zero,List.set_cons_succ]
 refine wpAnyH_ready (rs:=[3]) (by kernel_rfl) (by simp) ?_
 refine rStep 3 (Op.buildSlice 261 2 #[(0,Operand.tmp 28),(1,Operand.tmp 29)]) (some 30) (.slice (some ⟨w5.drew.heap.size,0,none⟩) 2 2) (w5.drew.alloc (.cells #[.slice (some ⟨w4.heap.size,0,none⟩) 56 64,.slice (some ⟨gg,0,none⟩) 4 cg] 68)) (by kernel_rfl) (by kernel_rfl) (fun o ho=>by unfold execOp;simp only[ho];go_simp) trivial ?_ AllReadyH.nil
 simp only[Act.put,List.setIfInBounds_toArray,List.set_cons_zero,List.set_cons_succ]
 refine wpAnyH_ready (rs:=[4]) (by kernel_rfl) (by simp) ?_
 refine rCall 4 (Op.call { callee:=Callee.value (Operand.func 331),args:=#[Operand.tmp 30],argTypes:=#[261] }) (some 31) 331 (#[.slice (some ⟨w5.drew.heap.size,0,none⟩) 2 2]) (by kernel_rfl) (by kernel_rfl) (fun o ho=>by unfold execOp;simp only[ho];go_simp) ?_ AllReadyH.nil
 refine(crc_sum _ [(.slice (some ⟨w4.heap.size,0,none⟩) 56 64,(body p).take 56),(.slice (some ⟨gg,0,none⟩) 4 cg,beB 4 g)] _ HPA.out (by simp) HPB.out HPL.out).mono ?_
 rintro e w6 ⟨rfl,hb6⟩
 rw[HCA.out]
 refine⟨_,rfl,trivial,fun hHeld=>?_⟩
 simp only[Act.put,List.setIfInBounds_toArray,List.set_cons_zero,List.set_cons_succ]
 refine hTake 5 (Op.convert 51 141 (Operand.tmp 31)) (some 32) (.int .u64 (crcSum ((body p).take 56++beB 4 g))) (by kernel_rfl) (by kernel_rfl) (by kernel_rfl) (by kernel_rfl) (by kernel_rfl) (fun _ _ _ h=>h) (fun o ho wX hX=>by unfold execOp;simp only[ho];go_simp) hHeld ?_
 simp only[Act.put,List.setIfInBounds_toArray,List.set_cons_zero,List.set_cons_succ]
 refine wpAnyH_ready (rs:=[6]) (by kernel_rfl) (by simp) ?_
 refine rCall 6 (Op.call { callee:=Callee.value (Operand.func 319),args:=#[Operand.const (Value.int IntKind.i64 4),Operand.tmp 32],argTypes:=#[3,141] }) (some 33) 319 (#[.int .i64 4,.int .u64 (crcSum ((body p).take 56++beB 4 g))]) (by kernel_rfl) (by kernel_rfl) (fun o ho=>by unfold execOp;simp only[ho];go_simp) ?_ AllReadyH.nil
 refine(frame_number 4 (crcSum ((body p).take 56++beB 4 g)) w6 (by omega) (by omega) HCS.out).mono ?_
 rintro e w7 ⟨vc,rfl,hown7,hb7⟩
 refine⟨_,rfl,trivial,fun hHeld=>?_⟩
 simp only[Act.put,List.setIfInBounds_toArray,List.set_cons_zero,List.set_cons_succ]
 have hb57:Below w5.heap.size w5 w7:=bstep (bstep (((Below.refl w5.heap.size w5).drew).alloc (Nat.le_refl _) (.cells #[.slice (some ⟨w4.heap.size,0,none⟩) 56 64,.slice (some ⟨gg,0,none⟩) 4 cg] 68)) hb6) hb7
 have hB7:=HB5.keep hb57
 have hth7:=there_blk hB7 (by rw[hsz64];exact(by omega:56+4≤64))
 refine wpAnyH_ready (rs:=[7]) (by kernel_rfl) (by simp) ?_
 refine rCopy (sT:=68) 7 (.tmp 27) (.tmp 33) (some 34) (by kernel_rfl) (by kernel_rfl) (by exact rfl) (by exact rfl) Tryz.underlying68 (by kernel_rfl) (Sn.own hown7) (by omega) hth7 (u8s_mem _) trivial ?_ AllReadyH.nil
 simp only[Act.put,List.setIfInBounds_toArray,List.set_cons_zero,List.set_cons_succ]
 refine wpAnyH_done (by kernel_rfl) ?_ _
 have hB0:=HB0.keep hb57
 have hSG:=HSG.below hb57
 have hbW7:=bstep hb50 hb57
 clear hb6 hb7 hown7 hth7 HPA HPB HPL HCA hcw
 have ho8:=setCells_off w4.heap.size (u8s (beB 4 (crcSum ((body p).take 56++beB 4 g)))) 56 w7
 have hB8:=setCells_blk (u8s (beB 4 (crcSum ((body p).take 56++beB 4 g)))) 56 w7 _ hB7
 have hB08:=ho8.blk hB0 hne
 have hSG8:=hSG.offAt ho8 hgne
 have hb8:=hbW7.trans (setCells_below hle6 (u8s (beB 4 (crcSum ((body p).take 56++beB 4 g)))) 56 w7).1
 obtain⟨w8,hw8⟩:∃ w8,w8=w7.setCells w4.heap.size 56 (u8s (beB 4 (crcSum ((body p).take 56++beB 4 g)))):=⟨_,rfl⟩
 rw[← hw8] at ho8 hB8 hB08 hSG8 hb8 ⊢
 clear hw8 ho8 hB7 hB0 hSG hbW7
 have hth8:=there_blk hB8 (off:=60) (n:=4) (by rw[build_size,hsz64];exact(by omega:60+4≤64))
 have ho9:=setCells_off w4.heap.size (u8s (beB 4 g)) 60 w8
 have hB9:=setCells_blk (u8s (beB 4 g)) 60 w8 _ hB8
 rw[rec_put g p hp] at hB9
 have hB09:=ho9.blk hB08 hne
 have hb9:=hb8.trans (setCells_below hle6 (u8s (beB 4 g)) 60 w8).1
 have hr9:=hB9.range
 rw[List.toList_toArray] at hr9
 have hrl:(u8s (rec g p)).length=64:=by rw[u8s_length,rec_length g p hp]
 have hz9:z64.size=(u8s (rec g p)).toArray.size:=by rw[z64_size];simp[hrl]
 have hr1:=u8s_one (rec g p)
 have hg1:=u8s_mem (beB 4 g)
 have HB9:=Lib.hid hB09
 have HR9:=Lib.hid hr9
 have HT8:=Lib.hid hth8
 have HS8:=Lib.hid hSG8
 have HBF:=Lib.hid hb9
 clear hB9 hB09 hr9 hth8 hSG8 hb9 ho9 hB8 hB08 hb8
 go_wp2_with (first
  | (refine cp (.tmp 35) (.tmp 36) rfl rfl rfl rfl Tryz.underlying68 (by kernel_rfl) HS8.out (by omega) HT8.out hg1 ?_)
  | (refine ld 243 _ rfl rfl rfl HR9.out Tryz.underlying243 rfl (by rw[hrl];kernel_rfl) ?_)
  | (refine stBlk 243 (.tmp 4) (.tmp 38) rfl rfl rfl rfl HB9.out (by simp only[List.size_toArray,hrl];kernel_rfl) hz9 hr1 ?_;intro wZ hBZ hbZ _ _))
 have hrZ:=hBZ.range
 rw[List.toList_toArray] at hrZ
 refine bodyPost_ret (results_cellR_tmp rfl _ rfl hrZ Tryz.underlying243 rfl (by rw[hrl];kernel_rfl)) rfl ⟨rfl,HBF.trans hbZ⟩
end Go.Proofs.YtiaigidbcljblaaGreatDoor
