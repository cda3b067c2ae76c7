import Derived.Test.YtiaigidbcljblaaGreatDoorME21
import Derived.Test.YtiaigidbcljblaaGreatDoorME20
import Derived.Shelf.SlSortCmp.NoneTotal
import Derived.Test.YtiaigidbcljblaaGreatDoorME5
import Derived.Test.YtiaigidbcljblaaGreatDoorME17
import Derived.Test.YtiaigidbcljblaaGreatDoorME15
import Derived.Test.YtiaigidbcljblaaGreatDoorME1
import Derived.Test.YtiaigidbcljblaaGreatDoorME19
set_option linter.unusedVariables false
set_option linter.unusedSimpArgs false
set_option maxRecDepth 100000
set_option maxHeartbeats 40000000
namespace Go.Proofs.YtiaigidbcljblaaGreatDoor
section
set_option maxRecDepth 100000
open Go.RowKit Go.Shelf Go.Lib Go.Sort
def Ent:Type:={ p:List Int×Int // EntOk p }
instance:Inhabited Ent:=⟨⟨(List.replicate 32 0,0),⟨by simp,fun b hb=>by have:=(List.mem_replicate.1 hb).2;omega⟩,by constructor <;> decide⟩⟩
def encE(x:Ent):List Value:=entP x.1
def cfE(x y:Ent):Int:=cmpE x.1 y.1
theorem ltE(x y:Ent):ltOf cfE x y=decide (cmpE x.1 y.1<0):=rfl
theorem swoE:SWO (ltOf cfE) where
 irrefl x:=by
  rw[ltE,(cmpE_zero x.1 x.1).2 rfl]
  rfl
 trans x y z h1 h2:=by
  rw[ltE,decide_eq_true_eq] at *
  have h3:=cmpE_trans x.1 y.1 z.1 (by omega) (by omega)
  have hne:cmpE x.1 z.1≠0:=fun e=>by
   have e':=(cmpE_zero _ _).1 e
   rw[e'] at h1
   have:=cmpE_neg y.1 z.1
   omega
  omega
 ntrans x y z h1 h2:=by
  rw[ltE,decide_eq_false_iff_not] at *
  have n1:=cmpE_neg x.1 y.1
  have n2:=cmpE_neg y.1 z.1
  have n3:=cmpE_neg x.1 z.1
  have h3:=cmpE_trans z.1 y.1 x.1 (by omega) (by omega)
  omega
theorem totE(x y:Ent)(h1:ltOf cfE x y=false)(h2:ltOf cfE y x=false):x=y:=by
 rw[ltE,decide_eq_false_iff_not] at *
 have n1:=cmpE_neg x.1 y.1
 exact Subtype.ext ((cmpE_zero _ _).1 (by omega))
theorem get_flat{α:Type}(C:α→List Value)(s:Nat)(hlen:∀ r,(C r).length=s)(l:List α)(k j:Nat)(hk:k<l.length)(hj:j<s):(l.flatMap C)[k*s+j]? = (C l[k])[j]?:=by
 have e:l.flatMap C=(l.take k).flatMap C++(C l[k]++(l.drop (k+1)).flatMap C):=by
  conv=>lhs;rw[← List.take_append_drop k l,List.drop_eq_getElem_cons hk]
  rw[List.flatMap_append,List.flatMap_cons]
 have h1:((l.take k).flatMap C).length=k*s:=by
  have key:∀ m:List α,(m.flatMap C).length=m.length*s:=by
   intro m
   induction m with
   | nil=>simp
   | cons r m ih=>simp[List.flatMap_cons,hlen r,ih,Nat.add_mul];omega
  rw[key,List.length_take,Nat.min_eq_left (by omega)]
 rw[e,List.getElem?_append_right (by omega),h1,Nat.add_sub_cancel_left,List.getElem?_append_left (by rw[hlen];exact hj)]
theorem encE_length(x:Ent):(encE x).length=33:=entP_length x.1 x.2
theorem flatK_get(d:Array Ent)(t:Nat)(h:t<d.size*33):(d.toList.flatMap encE)[t]? = some (flatK encE 33 d)[t]!:=by
 rw[get_flatK encE 33 d t h]
 have h1:t/33<d.toList.length:=by rw[Array.length_toList];omega
 have h2:t % 33<33:=Nat.mod_lt _ (by omega)
 have h3:=get_flat encE 33 encE_length d.toList (t/33) (t % 33) h1 h2
 rw[show t/33*33+t % 33=t by omega] at h3
 rw[h3]
 have h4:d[t/33]! = d.toList[t/33]:=by
  rw[getElem!_pos d (t/33) (by simpa using h1)]
  simp
 rw[h4]
 have h5:t % 33<(encE d.toList[t/33]).length:=by rw[encE_length];exact h2
 rw[List.getElem?_eq_getElem h5,getElem!_pos (encE d.toList[t/33]) (t % 33) h5]
theorem below_sort(w:World)(g n:Nat)(d:Array Ent)(os:Array Obj)(B:Nat)(hB:B≤g)(hs:B≤w.heap.size):Below B w (sortWorldK encE 33 w g 0 n d os):=by
 refine⟨rfl,rfl,rfl,?_,fun k hk=>?_⟩
 ·exact size_sortWorldK_c encE 33 w g 0 n d os
 ·show((mapBlock (Sort.ahead w n) g _).heap++os)[k]? = _
  have hsz:(mapBlock (Sort.ahead w n) g (putCells id 0 (flatK encE 33 d))).heap.size=w.heap.size:=by simp[mapBlock,Sort.ahead]
  rw[Array.getElem?_append_left (by rw[hsz];omega)]
  simp only[mapBlock,Sort.ahead,Array.getElem?_modify]
  rw[if_neg (by omega)]
theorem aggE:∀ w,(isAgg (Tryz.sortEnt_ren.t 24)).run Tryz.prog w = .ok true w:=fun w=>by kernel_rfl
theorem sizeE:∀ w,(Go.sizeOf (Tryz.sortEnt_ren.t 24)).run Tryz.prog w = .ok 33 w:=fun w=>by kernel_rfl
theorem cmpLaysE(g:Nat)(size:Nat)(w:World):CmpLays Tryz.prog 179 #[] encE 33 cfE g 0 size w:=
 fun _ _ _ _ x y=>compare_grow x.1 y.1 _ x.2 y.2
theorem sort_any(base n:Nat)(v:Value)(M:List (List Int×Int))(w:World)(hn:n=M.length)(hown:w.ownsRow base 172 33 v n (M.flatMap entP))(hok:∀ p∈M,EntOk p)(hl:M.length≤1000)(hbw:base≤w.heap.size):
  Calls Tryz.prog 178 #[v,.func (.func 179) #[] #[]] w fun e w'=>e = .returned (.tuple #[])∧∃ L:List (List Int×Int),L.Perm M∧L.Pairwise (fun p q=>cmpE p q≤0)∧Sn w' 33 v L.length (L.flatMap entP)∧Below base w w':=by
 subst hn
 obtain⟨hlen,h|⟨g,cap,cur,rfl,hb,hh,hc1,hm,hcs,htk⟩⟩:=hown
 ·obtain⟨rfl,h0⟩:=h
  have hM:M=[]:=List.eq_nil_of_length_eq_zero h0
  subst hM
  have hcon:=AnyF.slices_SortFunc_none Tryz.sortEnt none 0 (.func (.func 179) #[] #[]) w
  change Calls Tryz.prog 178 _ _ _ at hcon
  refine hcon.mono ?_
  rintro e w' ⟨rfl,rfl⟩
  exact⟨rfl,[],List.Perm.refl _,List.Pairwise.nil,⟨none,0,rfl,Nat.le_refl _,rfl,fun h=>absurd h (by simp)⟩,Below.refl _ _⟩
 ·obtain⟨d,hd⟩:∃ d:Array Ent,d.toList.map (·.1)=M:=⟨(M.attach.map fun p=>(⟨p.1,hok p.1 p.2⟩:Ent)).toArray,by
   rw[List.toList_toArray]
   exact List.map_map.trans (List.attach_map_subtype_val M)⟩
  have hsize:d.size=M.length:=by rw[← hd];simp
  have hfl:d.toList.flatMap encE=M.flatMap entP:=by rw[← hd,List.flatMap_map];rfl
  have hH:HoldsK encE 33 w g 0 d:=by
   intro j hj
   rw[size_flatK] at hj
   have hg:=flatK_get d j hj
   rw[hfl] at hg
   refine⟨?_,frozen_of_row w g (0+j) cur _ hh⟩
   rw[cell_of_row w g (0+j) cur _ (0,0) hh,Nat.zero_add]
   rw[← htk,List.getElem?_take] at hg
   split at hg
   ·simpa using hg
   ·cases hg
  have hgl:g<w.heap.size:=by
   rcases Nat.lt_or_ge g w.heap.size with h'|h'
   ·exact h'
   ·rw[Array.getElem?_eq_none h'] at hh;cases hh
  have eg:∀ args w,(callFunc 179 args).run Tryz.prog w = .ok (.enter 179 args) w:=enters_of Tryz.func179 (by kernel_rfl) rfl
  have hcon:=AnyQ.slices_SortFunc_total Tryz.sortEnt 33 aggE sizeE encE encE_length (fun x u hu=>by
   have:=entC_one x.1.1 x.1.2
   simp only[List.all_toArray,List.all_eq_true] at this
   exact this u hu) cfE swoE 179 #[] g 0 cap d w eg (cmpLaysE g d.size w) hH hgl (by omega) totE
  change Calls Tryz.prog 178 _ _ _ at hcon
  rw[hsize] at hcon
  refine hcon.mono ?_
  rintro e w' ⟨rfl,m,os,rfl⟩
  obtain⟨d',hd'⟩:∃ d':Array Ent,d'=(d.toList.mergeSort fun x y=>!(ltOf cfE) y x).toArray:=⟨_,rfl⟩
  rw[← hd']
  have hperm:d'.toList.Perm d.toList:=by rw[hd'];simpa using List.mergeSort_perm d.toList _
  have hsz':d'.size=d.size:=by rw[← Array.length_toList,hperm.length_eq,Array.length_toList]
  have hsorted:d'.toList.Pairwise (fun x y=>cmpE x.1 y.1≤0):=by
   rw[hd',List.toList_toArray]
   have h1:=List.pairwise_mergeSort (le:=fun x y:Ent=>!(ltOf cfE) y x) (fun x y z h1 h2=>by
    simp only[ltE,Bool.not_eq_true',decide_eq_false_iff_not] at *
    have n1:=cmpE_neg x.1 y.1
    have n2:=cmpE_neg y.1 z.1
    have n3:=cmpE_neg x.1 z.1
    have:=cmpE_trans x.1 y.1 z.1 (by omega) (by omega)
    omega) (fun x y=>by
    simp only[ltE,Bool.or_eq_true,Bool.not_eq_true',decide_eq_false_iff_not]
    have n1:=cmpE_neg x.1 y.1
    omega) d.toList
   refine h1.imp fun {x y} h=>?_
   simp only[ltE,Bool.not_eq_true',decide_eq_false_iff_not] at h
   have n1:=cmpE_neg x.1 y.1
   omega
  have hH':=holdsK_sortWorldK_c encE 33 w g 0 d d' m os hH hgl hsz'
  refine⟨rfl,d'.toList.map (·.1),by rw[← hd];exact hperm.map _,?_,?_,below_sort w g m d' os base hb hbw⟩
  ·rw[List.pairwise_map];exact hsorted
  ·have hl2:(d'.toList.map (·.1)).length=M.length:=by rw[List.length_map,Array.length_toList,hsz',hsize]
   rw[hl2]
   have hfl':(d'.toList.map (·.1)).flatMap entP=d'.toList.flatMap encE:=by rw[List.flatMap_map];rfl
   have hlf:((d'.toList.map (·.1)).flatMap entP).length=M.length*33:=by
    rw[hfl',(hperm.flatMap_right encE).length_eq,hfl];exact hlen
   refine⟨_,cap,rfl,hc1,hlf,fun _=>⟨g,0,rfl,fun j u hj=>?_⟩⟩
   have hjl:j<d'.size*33:=by
    have:=(List.getElem?_eq_some_iff.1 hj).1
    rw[hlf] at this
    rw[hsz',hsize];exact this
   rw[hfl',flatK_get d' j hjl] at hj
   have h1:=(hH' j (by rw[size_flatK];exact hjl)).1
   rw[h1];exact hj
end
section
set_option maxRecDepth 100000
open Go.RowKit
theorem own_grown{w w':World}{base e s n:Nat}{v:Value}{xs:List Value}{r:Nat}(h:w.ownsRow base e s v n xs)(hg:w.grownBy w' (some r))(hr:r<base):w'.ownsRow base e s v n xs:=by
 refine⟨h.1,?_⟩
 have hlt:=h.lt
 rcases h.2 with h2|⟨g,cap,cur,rfl,hb,hh,k⟩
 ·exact .inl h2
 ·exact .inr ⟨g,cap,cur,rfl,hb,by rw[hg.block g (hlt g rfl).2 (fun e=>by injection e with e;omega)];exact hh,k⟩
theorem live_own(g b n c:Nat)(f:List Int→Option Int)(now:Int)(w:World)(h:IX w g b n f c)(hn:n≤1000):
  Calls Tryz.prog 119 #[.pointer (some ⟨g,0,none⟩),.int .i64 now] w fun e w'=>∃(v:Value) (L:List (List Int×Int)),e = .returned v∧Sn w' 33 v L.length (L.flatMap entP)∧(∀ p:List Int×Int,p∈L ↔ EntOk p∧f p.1=some p.2∧now≤p.2)∧L.Pairwise (fun p q=>cmpE p q<0)∧Below w.heap.size w w'∧L.length≤c∧∀ b,v.ownBlock=some b→w.heap.size≤b∧b<w'.heap.size:=by
 obtain⟨hg,hgb,hm⟩:=h
 have hc:=hm.le
 go_enter Tryz.func119,Tryz.ntmps119
 go_wp2_with (at_range;refine dRange Tryz.underlying292 rfl _ rfl rfl hm ?_;intro w1 hR1 hg1 hs1)
 simp only[Act.put,List.setIfInBounds_toArray,List.set_cons_zero,List.set_cons_succ]
 have hb1:Below w.heap.size w w1:=⟨hg1.os,hg1.tape,hg1.output,hg1.size,fun k hk=>hg1.block k hk (by simp)⟩
 have hblt:=hm.lt
 have hglt:=cell_lt hg
 go_loopw [5] (fun m wr=>∃(M:List (List Int×Int)) (cnt:Nat) (left:List Int→Bool),wr.ownsRow (w.heap.size+1) 172 33 m M.length (M.flatMap entP)∧DR wr b w.heap.size n f c left cnt∧Below w.heap.size w wr∧Hid (∀ p:List Int×Int,p∈M ↔ EntOk p∧f p.1=some p.2∧now≤p.2∧left p.1=false)∧M.length+cnt≤c∧M.Nodup) (fun _ wr=>wr.rangeLeft b w.heap.size)
 case atStart=>exact⟨[],c,_,World.ownsRow_nil _ _ _ _,hR1,hb1,Lib.hid (fun p=>by
  constructor
  ·intro h;simp at h
  ·rintro⟨_,h,_,h'⟩;rw[h] at h';simp at h'),by simp,List.nodup_nil⟩
 case round=>
  obtain⟨M,cnt,left,hown,hR,hb,HM,hMc,hnd⟩:=hrel
  have hgr:=Below.cell' hb hg
  have hcnt:=Lib.hid hR.left_eq
  have hszr:=hb.size
  have hRlt:=hR.lt
  go_wp2_with (at_next;refine dNext rfl _ rfl rfl hR ?_ ?_)
  ·intro h0 hall
   have HOK:Hid (∀ p∈M,EntOk p):=Lib.hid fun p hp=>((HM.out p).1 hp).1
   have hM1:M.length≤1000:=by omega
   go_wp2_with fail
   refine(sort_any (w.heap.size+1) M.length u5 M wr rfl hown HOK.out hM1 (by omega)).mono ?_
   rintro e w2 ⟨rfl,L,hperm,hsorted,hsn,hbs⟩
   go_wp2_with fail
   go_ret
   have hndL:L.Nodup:=hperm.nodup_iff.2 hnd
   refine⟨_,L,rfl,hsn,fun p=>?_,?_,hb.trans (hbs.mono (Nat.le_succ _)),by have:=hperm.length_eq;omega,fun b e=>⟨by have:=(hown.lt b e).1;omega,Nat.lt_of_lt_of_le (hown.lt b e).2 hbs.size⟩⟩
   ·rw[hperm.mem_iff,HM.out p]
    constructor
    ·rintro⟨k1,k2,k3,_⟩;exact⟨k1,k2,k3⟩
    ·rintro⟨k1,k2,k3⟩;exact⟨k1,k2,k3,hall p.1 k1.dig⟩
   ·refine(hsorted.and hndL).imp fun {p q} h=>?_
    have hne:cmpE p q≠0:=fun e=>h.2 ((cmpE_zero p q).1 e)
    have:=h.1
    omega
  ·intro d t w2 cnt' hd hti hl hfd hR2 hlt hg2 hs2 hen
   have h1:=u8s_one d
   have hbuild:=build_ent d t hd.len
   have hent:=entC_length hd t
   have hbuild2:=build_one d t hd
   have hbuild3:=build_size
   have h32:(u8s d).length=32:=by simp[u8s,hd.len]
   have hb2:Below w.heap.size w w2:=⟨hg2.os.trans hb.os,hg2.tape.trans hb.tape,hg2.output.trans hb.output,by omega,fun i hi=>(hg2.block i (by omega) (fun e=>by injection e with e;omega)).trans (hb.block i hi)⟩
   have hgr2:=Below.cell' hb2 hg
   have hown2:w2.ownsRow (w.heap.size+1) 172 33 _ M.length (M.flatMap entP):=own_grown hown hg2 (by simp)
   have HS2:=Lib.hid hs2
   have HLT:=Lib.hid hlt
   clear hR hR1 hlt hs2 hown
   rcases Bool.eq_false_or_eq_true (decide (now≤t)) with t1|t1
   ·go_wp2_with (first
     | (refine stNew 26 (.tmp 6) (.tmp 18) rfl rfl rfl rfl (by simp only[List.size_toArray,h32];kernel_rfl) (by simp only[List.size_toArray,h32] <;> rfl) h1 ?_;intro w3 hblk hb3 hs3;have hr3:=Blk.range hblk;rw[List.toList_toArray] at hr3;have hoA:=own_below (own_below hown2 hb3) (balloc (Below.refl _ w3) (.cells (entC d t).toArray 172));have hnA:=Sn.new w3 (entC d t).toArray 172 33 1 (by simp[hent]);have hs3':w.heap.size+2≤w3.heap.size:=(by have:=HS2.out;omega);clear hs3)
     | (refine ld 26 _ rfl rfl rfl hr3 Tryz.underlying26 rfl (by rw[h32];kernel_rfl) ?_)
     | (at_builtin;refine app tEntI (.tmp 23) (.tmp 27) rfl rfl (v:=u5) rfl hoA rfl hnA (fun u hu=>by have:=entC_one d t;simp only[List.all_toArray,List.all_eq_true] at this;exact this u (by simpa using hu)) (by unfold maxLen;omega) (by omega) (by simp;omega) ?_;intro v4 w4 hown4 hg4 _))
    have hbA:Below w.heap.size w (w3.alloc (.cells (entC d t).toArray 172)):=(bstep hb2 hb3).alloc (by omega) _
    have hb4:Below w.heap.size w w4:=hbA.grown hg4 (by simp;omega) (fun g hg=>by have:=(hoA.lt g hg).1;omega)
    have hkeep:∀ k,k≤w.heap.size→w4.heap[k]? = w2.heap[k]?:=fun k hk=>by
     rw[hg4.block k (by simp;omega) (fun e=>by have:=(hoA.lt k e.symm).1;omega),Below.heap_alloc _ _ _ (by omega),hb3.block k (by have:=HS2.out;omega)]
    have hR4:=hR2.of_blocks (hkeep b (by omega)) (hkeep w.heap.size (Nat.le_refl _))
    have hlt:=of_decide_eq_true t1
    refine⟨⟨M++[(d,t)],cnt',_,by rw[List.length_append,List.flatMap_append];simpa [entP] using hown4,hR4,hb4,Lib.hid fun p=>?_,by have:=HLT.out;simp only[List.length_append,List.length_cons,List.length_nil];omega,?_⟩,?_⟩
    ·rw[List.mem_append,HM.out p]
     have hfd0:=hfd
     constructor
     ·rintro(⟨k1,k2,k3,k4⟩|h)
      ·exact⟨k1,k2,k3,by simp[k4]⟩
      ·obtain rfl:p=(d,t):=by simpa using h
       exact⟨⟨hd,hti⟩,hfd,hlt,by simp⟩
     ·rintro⟨k1,k2,k3,k4⟩
      by_cases hpd:p.1=d
      ·refine .inr ?_
       rw[hpd,hfd0] at k2
       injection k2 with k2
       have:p=(d,t):=Prod.ext hpd k2.symm
       simp[this]
      ·exact .inl ⟨k1,k2,k3,by simpa [hpd] using k4⟩
    ·refine List.nodup_append.2 ⟨hnd,by simp,fun x hx y hy=>?_⟩
     obtain rfl:y=(d,t):=by simpa using hy
     rintro rfl
     have:=((HM.out _).1 hx).2.2.2
     rw[hl] at this
     cases this
    ·rw[hcnt.out,hR4.left_eq]
     exact HLT.out
   ·go_wp2_with (refine stNew 26 (.tmp 6) (.tmp 18) rfl rfl rfl rfl (by simp only[List.size_toArray,h32];kernel_rfl) (by simp only[List.size_toArray,h32] <;> rfl) h1 ?_;intro w3 hblk hb3 hs3)
    refine⟨⟨M,cnt',_,own_below hown2 hb3,hR2.keep hb3,bstep hb2 hb3,Lib.hid fun p=>?_,by have:=HLT.out;omega,hnd⟩,?_⟩
    ·have hlt:=of_decide_eq_false t1
     rw[HM.out p]
     constructor
     ·rintro⟨k1,k2,k3,k4⟩
      exact⟨k1,k2,k3,by simp[k4]⟩
     ·rintro⟨k1,k2,k3,k4⟩
      refine⟨k1,k2,k3,?_⟩
      by_cases hpd:p.1=d
      ·rw[hpd] at k2
       rw[hfd] at k2
       injection k2 with k2
       omega
      ·simpa [hpd] using k4
    ·rw[hcnt.out,(hR2.keep hb3).left_eq]
     exact HLT.out
end
section
open Go.RowKit
attribute [local irreducible] wpQuiet wpAnyH
end
section
open Go.RowKit
section
variable {P : Program} {w : World}
end
end
section
open Go.RowKit
attribute [local irreducible] wpQuiet wpAnyH
structure CT(F:List Nat)(w:World)(m:DiskM)(w':World)(m':DiskM):Prop where
 g:m'.g=m.g
 fo:Fo (F++foot m) w w'
 sub:∀ k∈foot m',k∈foot m∨w.heap.size≤k
 cv:∀ k v,m'.cv k=some v→m.cv k=some v∨∀ b,v.ownBlock=some b→w.heap.size≤b
def Far(m:DiskM)(F:List Nat)(b:Nat):Prop:=Apart m b∧b ∉ F
section
variable {F : List Nat} {w w' w'' : World} {m m' m'' : DiskM} {d d' : DiskD}
theorem CT.of_lt{gl:Nat}(h:LT gl w m w' m')(hg:gl∈F∨w.heap.size≤gl):CT F w m w' m':=
 ⟨h.g,⟨h.fo.os,h.fo.tape,h.fo.output,h.fo.size,fun k hk hn=>h.fo.block k hk (fun hm=>by
  rcases List.mem_cons.1 hm with h1|h1
  ·rcases hg with h2|h2
   ·exact hn (List.mem_append.2 (.inl (h1 ▸ h2)))
   ·omega
  ·exact hn (List.mem_append.2 (.inr h1)))⟩,h.sub,h.cv⟩
theorem CT.of_dt(h:DT w m w' m'):CT F w m w' m':=⟨h.g,h.fo.wide (fun _ hx=>List.mem_append.2 (.inr hx)),h.sub,h.cv⟩
theorem CT.of_below(h:Below w.heap.size w w'):CT F w m w' m:=CT.of_dt (DT.of_below h)
theorem CT.of_off{b:Nat}(h:Off b w w')(hb:b∈F):CT F w m w' m:=
 ⟨rfl,⟨h.os,h.tape,h.output,h.size,fun k hk hn=>h.block k hk (fun e=>hn (List.mem_append.2 (.inl (e ▸ hb))))⟩,fun _ h=>.inl h,fun _ _ h=>.inl h⟩
theorem CT.trans(h:CT F w m w' m')(k:CT F w' m' w'' m''):CT F w m w'' m'':=
 ⟨k.g.trans h.g,h.fo.trans k.fo (fun x hx=>by
  rcases List.mem_append.1 hx with h1|h1
  ·exact .inl (List.mem_append.2 (.inl h1))
  ·exact(h.sub x h1).imp (fun h=>List.mem_append.2 (.inr h)) id),fun x hx=>by
  rcases k.sub x hx with h1|h1
  ·exact h.sub x h1
  ·exact .inr (Nat.le_trans h.fo.size h1),fun x v hx=>by
  rcases k.cv x v hx with h1|h1
  ·exact h.cv x v h1
  ·exact .inr (fun b e=>Nat.le_trans h.fo.size (h1 b e))⟩
theorem CT.block(h:CT F w m w' m'){b:Nat}(hb:b<w.heap.size)(hf:Far m F b):w'.heap[b]? = w.heap[b]?:=
 h.fo.block b hb (fun hm=>(List.mem_append.1 hm).elim hf.2 hf.1.1)
theorem CT.apart(h:CT F w m w' m'){b:Nat}(hb:b<w.heap.size)(hf:Apart m b):Apart m' b:=
 ⟨fun hm=>by
  rcases h.sub b hm with h1|h1
  ·exact hf.1 h1
  ·omega,fun k hk v hv e=>by
  rcases h.cv k v hv with h1|h1
  ·exact hf.2 k hk v h1 e
  ·have:=h1 b e;omega⟩
theorem CT.far(h:CT F w m w' m'){b:Nat}(hb:b<w.heap.size)(hf:Far m F b):Far m' F b:=⟨h.apart hb hf.1,hf.2⟩
theorem CT.below{B:Nat}(h:CT F w m w' m')(hF:∀ k∈foot m,B≤k)(hg:∀ k∈F,B≤k)(hB:B≤w.heap.size):Below B w w':=
 h.fo.below (fun k hk=>(List.mem_append.1 hk).elim (hg k) (hF k)) hB
theorem CT.le{B:Nat}(h:CT F w m w' m')(hF:∀ k∈foot m,B≤k)(hB:B≤w.heap.size):∀ k∈foot m',B≤k:=fun k hk=>by
 rcases h.sub k hk with h1|h1
 ·exact hF k h1
 ·omega
theorem CT.wide{G:List Nat}(h:CT F w m w' m')(hs:∀ x∈F,x∈G∨w.heap.size≤x):CT G w m w' m':=
 ⟨h.g,⟨h.fo.os,h.fo.tape,h.fo.output,h.fo.size,fun k hk hn=>h.fo.block k hk (fun hm=>by
  rcases List.mem_append.1 hm with h1|h1
  ·rcases hs k h1 with h2|h2
   ·exact hn (List.mem_append.2 (.inl h2))
   ·omega
  ·exact hn (List.mem_append.2 (.inr h1)))⟩,h.sub,h.cv⟩
theorem St.ct{w0:World}(h:St w0 w m d)(hk:DK w' m' d')(ht:CT F w m w' m')(hg:∀ k∈F,w0.heap.size≤k):St w0 w' m' d':=
 ⟨hk,ht.le h.ft h.bel.size,h.bel.trans (ht.below h.ft hg h.bel.size)⟩
theorem Blk.ct{g:Nat}{t:TypeId}{cs:Array Value}(h:Blk w g t cs)(ht:CT F w m w' m')(hf:Far m F g):Blk w' g t cs:=(ht.block h.lt hf).trans h
end
theorem DK.offO{w w':World}{m:DiskM}{d:DiskD}{b:Nat}(h:DK w m d)(ho:Off b w w')(ha:Apart m b):DK w' m d where
 blk:=(ho.block m.g h.blk.lt (fun e=>ha.1 (e ▸ foot_g m))).trans h.blk
 sec:=own_blk h.sec fun x hx=>ho.block x (h.sec.lt x hx).2 (fun e=>ha.1 (e ▸ foot_sv hx))
 opn:=own_blk h.opn fun x hx=>ho.block x (h.opn.lt x hx).2 (fun e=>ha.1 (e ▸ foot_ov hx))
 last:=h.last.of_block (ho.block _ h.last.lt (fun e=>ha.1 (e ▸ foot_bl m)))
 fl:=h.fl.of_block (ho.block _ h.fl.lt (fun e=>ha.1 (e ▸ foot_bf m)))
 cr:=h.cr.of_block (ho.block _ h.cr.lt (fun e=>ha.1 (e ▸ foot_bc m)))
 nd:=h.nd
 flv:=h.flv
 crv:=fun k hi=>by
  have:=h.crv k hi
  cases hc:d.cr k with
  | none=>rw[hc] at this;exact this
  | some cs=>
   rw[hc] at this
   obtain⟨v,h1,h2,h3⟩:=this
   refine⟨v,h1,?_,fun b hb=>⟨(h3 b hb).1,Nat.lt_of_lt_of_le (h3 b hb).2 ho.size⟩⟩
   have hne:=ha.2 k hi v h1
   obtain⟨A,cap,rfl,q1,q2,hx⟩:=h2
   refine⟨A,cap,rfl,q1,q2,fun hp=>?_⟩
   obtain⟨g,o,rfl,hcell⟩:=hx hp
   exact⟨g,o,rfl,fun j u hj=>ho.cell (hcell j u hj) (fun e=>hne (by rw[← e];rfl))⟩
 ok:=h.ok
structure CacheD where
 L:LogD
 E:EL
 til:Int
def cacheC(gl gi:Nat)(t:Int):Array Value:=#[.pointer (some ⟨gl,0,none⟩),.pointer (some ⟨gi,0,none⟩),.int .i64 t]
def XK(w:World)(gi bi n:Nat)(E:EL):Prop:=∃ f c,IX w gi bi n f c∧Lists f E
theorem XK.keep{w w':World}{gi bi n:Nat}{E:EL}(h:XK w gi bi n E)(hb:Below w.heap.size w w'):XK w' gi bi n E:=by
 obtain⟨f,c,h1,h2⟩:=h
 exact⟨f,c,h1.keep hb,h2⟩
theorem XK.same{w w':World}{gi bi n:Nat}{E:EL}(h:XK w gi bi n E)(h1:w'.heap[gi]? = w.heap[gi]?)(h2:w'.heap[bi]? = w.heap[bi]?):XK w' gi bi n E:=by
 obtain⟨f,c,⟨a,b,e⟩,h3⟩:=h
 exact⟨f,c,⟨(World.cell?_of_block (a:=⟨gi,0,none⟩) h1).trans a,b,e.of_block h2⟩,h3⟩
theorem XK.len{w:World}{gi bi n:Nat}{E:EL}(h:XK w gi bi n E):E.length≤n:=by
 obtain⟨f,c,⟨_,_,e⟩,h3⟩:=h
 have:=h3.count e
 have:=e.le
 omega
theorem XK.lt{w:World}{gi bi n:Nat}{E:EL}(h:XK w gi bi n E):gi<w.heap.size∧bi<w.heap.size:=by
 obtain⟨f,c,⟨a,_,e⟩,_⟩:=h
 exact⟨cell_lt a,e.lt⟩
theorem XK.wl{w:World}{gi bi n:Nat}{E:EL}(h:XK w gi bi n E):WL E:=by
 obtain⟨f,c,_,h⟩:=h
 exact⟨f,h⟩
theorem XK.mono{w:World}{gi bi n n':Nat}{E:EL}(h:XK w gi bi n E)(hn:n≤n'):XK w gi bi n' E:=by
 obtain⟨f,c,h1,h2⟩:=h
 exact⟨f,c,h1.mono hn,h2⟩
structure CK(w:World)(m:DiskM)(d:DiskD)(gc gl gi bi h n:Nat)(C:CacheD):Prop where
 lk:LK w m d gl h C.L
 blk:Blk w gc 229 (cacheC gl gi C.til)
 ix:XK w gi bi n C.E
 ac:Apart m gc
 ai:Apart m gi
 ab:Apart m bi
 ne:gc≠gl∧gi≠gl∧bi≠gl∧gc≠bi∧gi≠bi
 i64:isI64 C.til
theorem CK.keep{w w':World}{m:DiskM}{d:DiskD}{gc gl gi bi h n:Nat}{C:CacheD}(k:CK w m d gc gl gi bi h n C)(hb:Below w.heap.size w w'):CK w' m d gc gl gi bi h n C:=
 ⟨k.lk.keep hb,k.blk.keep hb,k.ix.keep hb,k.ac,k.ai,k.ab,k.ne,k.i64⟩
theorem CK.log{w w':World}{m m':DiskM}{d d':DiskD}{gc gl gi bi h n:Nat}{C:CacheD}{L':LogD}(k:CK w m d gc gl gi bi h n C)(hl:LK w' m' d' gl h L')(ht:LT gl w m w' m'):CK w' m' d' gc gl gi bi h n ⟨L',C.E,C.til⟩:=
 have hc:CT [gl] w m w' m':=CT.of_lt ht (.inl (List.mem_singleton.2 rfl))
 have f1:∀ b,b≠gl→Apart m b→Far m [gl] b:=fun b hb ha=>⟨ha,fun hm=>hb (List.mem_singleton.1 hm)⟩
 have lt:=k.ix.lt
 ⟨hl,k.blk.ct hc (f1 _ k.ne.1 k.ac),k.ix.same (hc.block lt.1 (f1 _ k.ne.2.1 k.ai)) (hc.block lt.2 (f1 _ k.ne.2.2.1 k.ab)),hc.apart k.blk.lt k.ac,hc.apart lt.1 k.ai,hc.apart lt.2 k.ab,k.ne,k.i64⟩
theorem CK.disk{w w':World}{m m':DiskM}{d d':DiskD}{gc gl gi bi h n:Nat}{C:CacheD}(k:CK w m d gc gl gi bi h n C)(hk:DK w' m' d')(ht:DT w m w' m')(hl:d'.sec.length=d.sec.length):CK w' m' d' gc gl gi bi h n C:=
 k.log (L':=C.L) (k.lk.disk hk ht hl) (LT.of_dt ht)
theorem CK.index{w w':World}{m:DiskM}{d:DiskD}{gc gl gi bi h n n':Nat}{C:CacheD}{E':EL}(k:CK w m d gc gl gi bi h n C)(ho:Off bi w w')(hx:XK w' gi bi n' E'):CK w' m d gc gl gi bi h n' ⟨C.L,E',C.til⟩:=
 have h1:∀ j,j<w.heap.size→j≠bi→w'.heap[j]? = w.heap[j]?:=ho.block
 have hfo:Fo [bi] w w':=⟨ho.os,ho.tape,ho.output,ho.size,fun j hj hn=>h1 j hj (fun e=>hn (List.mem_singleton.2 e))⟩
 ⟨⟨k.lk.dk.offO ho k.ab,(h1 gl k.lk.blk.lt (fun e=>k.ne.2.2.1 e.symm)).trans k.lk.blk,k.lk.ap,k.lk.ok⟩,(h1 gc k.blk.lt k.ne.2.2.2.1).trans k.blk,hx,k.ac,k.ai,k.ab,k.ne,k.i64⟩
end
section
open Go.RowKit
attribute [local irreducible] wpQuiet wpAnyH
theorem xk_live(w:World)(gi bi n:Nat)(E:EL)(now:Int)(h:XK w gi bi n E)(hn:n≤1000):
  Calls Tryz.prog 119 #[.pointer (some ⟨gi,0,none⟩),.int .i64 now] w fun e w'=>∃ v,e = .returned v∧Sn w' 33 v (liveL E now).length ((liveL E now).flatMap entP)∧Below w.heap.size w w'∧∀ b,v.ownBlock=some b→w.heap.size≤b∧b<w'.heap.size:=by
 obtain⟨f,c,hx,hl⟩:=h
 refine(live_own gi bi n c f now w hx hn).mono ?_
 rintro e w' ⟨v,L,rfl,h1,h2,h3,h4,_,h5⟩
 have:L=liveL E now:=(Lists.of_live h2 h3 hl.exp).eq (hl.live now)
 subst this
 exact⟨v,rfl,h1,h4,h5⟩
theorem xk_drop(w:World)(gi bi n:Nat)(E:EL)(now:Int)(h:XK w gi bi n E)(hn:n≤1000):
  Calls Tryz.prog 152 #[.pointer (some ⟨gi,0,none⟩),.int .i64 now] w fun e w'=>∃ k:Nat,e = .returned (.int .i64 k)∧XK w' gi bi n (liveL E now)∧Off bi w w':=by
 obtain⟨f,c,hx,hl⟩:=h
 refine(drop_any gi bi n c f now w hx hn).mono ?_
 rintro e w' ⟨k,c',rfl,_,h1,h2⟩
 exact⟨k,rfl,⟨_,_,h1,hl.live now⟩,h2⟩
theorem xk_new(v:Value)(l:EL)(w:World)(hs:Sn w 33 v l.length (l.flatMap entP))(hok:∀ p∈l,EntOk p)(hl:l.length≤1000):
  Calls Tryz.prog 150 #[v] w fun e w'=>∃ gi bi,e = .returned (.pointer (some ⟨gi,0,none⟩))∧XK w' gi bi l.length (refOf l)∧w.heap.size≤gi∧w.heap.size≤bi∧gi≠bi∧Below w.heap.size w w':=by
 refine(new_any v l w hs hok hl).mono ?_
 rintro e w' ⟨g,b,rfl,h1,h2,h3,h4⟩
 exact⟨g,b,rfl,⟨_,_,h1,refOf_ok l hok⟩,h2,h3,h1.2.1,h4⟩
section
variable {w : World} {gc gl gi : Nat} {til : Int}
theorem cache_cells(h:Blk w gc 229 (cacheC gl gi til)):w.cell? ⟨gc,0,none⟩=some (.pointer (some ⟨gl,0,none⟩))∧w.cell? ⟨gc,1,none⟩=some (.pointer (some ⟨gi,0,none⟩))∧w.cell? ⟨gc,2,none⟩=some (.int .i64 til):=
 ⟨(h.cell 0).trans rfl,(h.cell 1).trans rfl,(h.cell 2).trans rfl⟩
end
section
variable {w : World} {m : DiskM} {d : DiskD} {gc gl gi bi h n : Nat} {C : CacheD}
theorem c_live(now:Int)(k:CK w m d gc gl gi bi h n C)(hn:n≤1000):
  Calls Tryz.prog 79 #[.pointer (some ⟨gc,0,none⟩),.int .i64 now] w fun e w'=>∃ v,e = .returned v∧Sn w' 33 v (liveL C.E now).length ((liveL C.E now).flatMap entP)∧Below w.heap.size w w'∧∀ b,v.ownBlock=some b→w.heap.size≤b∧b<w'.heap.size:=by
 obtain⟨_,c1,_⟩:=cache_cells k.blk
 have HL:=Lib.hid (xk_live w gi bi n C.E now k.ix hn)
 clear k
 go_enter Tryz.func79,Tryz.ntmps79
 go_wp2_with fail
 refine HL.mono ?_
 rintro e w' ⟨v,rfl,h1,h2,h3⟩
 have H1:=Lib.hid h1
 have H2:=Lib.hid h2
 have H3:=Lib.hid h3
 clear h1 h2 h3
 go_wp2_with fail
 go_ret
 exact⟨v,rfl,H1.out,H2.out,H3.out⟩
end
end
section
open Go.RowKit
attribute [local irreducible] wpQuiet wpAnyH
section
variable {d : DiskD}
theorem rewR_bd{d:DiskD}(h:d.steps≤d.room)(hh:Nat)(L:LogD)(qs:List Ent2):(rewR d hh L qs).2.1.room≤d.room+2*qs.length+4:=by
 unfold rewR
 split
 ·show d.room≤_;omega
 ·split
  ·show d.room≤_;omega
  ·unfold rewS
   have h1:=fillR_bd h (sFrom hh (1-L.side)) hh (max L.last L.gen+1) qs
   have h2:=wsD_bd h1.1 (sFrom hh (1-L.side)) (rec (max L.last L.gen+1) toll)
   have h3:=h1.2.1
   have h4:=h2.2.1
   unfold rewW
   split
   ·show(fillR d (sFrom hh (1-L.side)) hh (max L.last L.gen+1) qs).2.room≤_;omega
   ·split
    ·show(wsD (fillR d (sFrom hh (1-L.side)) hh (max L.last L.gen+1) qs).2 _ _).room≤_;omega
    ·show(wsD (fillR d (sFrom hh (1-L.side)) hh (max L.last L.gen+1) qs).2 _ _).room≤_;omega
theorem openR_bd{d:DiskD}(h:d.steps≤d.room):(openR d).2.1.room≤d.room+4:=by
 have h1:=syncS_bd h
 have h2:=h1.2.1
 unfold openR
 split
 ·show d.room≤_;omega
 ·split
  ·show(syncS d).room≤_;omega
  ·unfold openS
   have h3:=wsD_bd h1.1 0 (rec (lastN (syncS d) (syncS d).sec.length+1) toll)
   have h4:=h3.2.1
   split
   ·show(syncS d).room≤_;omega
   ·split
    ·show(syncS d).room≤_;omega
    ·split
     ·show(wsD (syncS d) 0 _).room≤_;omega
     ·show(wsD (syncS d) 0 _).room≤_;omega
end
theorem rewR_len(d:DiskD)(h:Nat)(L:LogD)(qs:List Ent2):(rewR d h L qs).2.1.sec.length=d.sec.length:=by
 unfold rewR
 split
 ·rfl
 ·split
  ·rfl
  ·unfold rewS rewW
   split
   ·exact fillR_len _ _ _ _ _
   ·split
    ·show(wsD _ _ _).sec.length=_
     rw[wsD_len,fillR_len]
    ·show(wsD _ _ _).sec.length=_
     rw[wsD_len,fillR_len]
theorem openR_len(d:DiskD):(openR d).2.1.sec.length=d.sec.length:=by
 unfold openR
 split
 ·rfl
 ·split
  ·exact syncS_len d
  ·unfold openS
   split
   ·exact syncS_len d
   ·split
    ·exact syncS_len d
    ·split
     ·show(wsD _ _ _).sec.length=_
      rw[wsD_len,syncS_len]
     ·show(wsD _ _ _).sec.length=_
      rw[wsD_len,syncS_len]
section
variable {d : DiskD}
theorem plan_bd(d:DiskD)(n:Int)(cl:List Int):((planF d n).room≤d.room+1∧(planF d n).sec.length=d.sec.length)∧(planC d n cl).room≤d.room+1∧(planC d n cl).sec.length=d.sec.length:=by
 unfold planF planC
 constructor
 ·split
  ·exact⟨by omega,rfl⟩
  ·exact⟨Nat.le_refl _,rfl⟩
 ·split
  ·exact⟨by omega,rfl⟩
  ·exact⟨Nat.le_refl _,rfl⟩
end
end
end Go.Proofs.YtiaigidbcljblaaGreatDoor
