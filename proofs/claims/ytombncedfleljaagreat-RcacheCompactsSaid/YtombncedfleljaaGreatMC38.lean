import Derived.Shelf.SlLaysF0
import Derived.Ground.SlsfProg
import Derived.Test.YtombncedfleljaaGreatMC33
import Derived.Shelf.SlSortCmp.NoneTotal
import Derived.Test.YtombncedfleljaaGreatMC30
set_option linter.unusedSimpArgs false
set_option maxRecDepth 100000
set_option maxHeartbeats 40000000
namespace Go.Proofs
open Go.Shelf
def Tryz.sortEnt_ren:Go.Shelf.Ren:=⟨fun|6=>59|15=>84|14=>83|28=>114|29=>115|20=>106|21=>107|22=>108|23=>109|24=>110|25=>111|26=>112|27=>113|46=>135|47=>136|48=>137|49=>138|50=>139|57=>156|n=>n,fun|22=>28|24=>35|25=>88|3=>3|39=>104|0=>0|53=>59|55=>80|4=>4|46=>184|45=>183|50=>188|5=>5|9=>9|66=>219|70=>223|76=>242|77=>243|n=>n,fun|n=>n⟩
theorem Tryz.sortEnt:Go.Proofs.SlLaysF0.n6 Tryz.prog Tryz.sortEnt_ren:={
 mixed:=by kernel_rfl
 f6:=⟨Tryz.f59.name,by decide,Tryz.func59.trans (congrArg some (by kernel_rfl))⟩
 f14:=⟨Tryz.f83.name,by decide,Tryz.func83.trans (congrArg some (by kernel_rfl))⟩
 f15:=Tryz.func84.trans (congrArg some (by kernel_rfl))
 f20:=⟨Tryz.f106.name,by decide,Tryz.func106.trans (congrArg some (by kernel_rfl))⟩
 f21:=⟨Tryz.f107.name,by decide,Tryz.func107.trans (congrArg some (by kernel_rfl))⟩
 f22:=⟨Tryz.f108.name,by decide,Tryz.func108.trans (congrArg some (by kernel_rfl))⟩
 f23:=⟨Tryz.f109.name,by decide,Tryz.func109.trans (congrArg some (by kernel_rfl))⟩
 f24:=⟨Tryz.f110.name,by decide,Tryz.func110.trans (congrArg some (by kernel_rfl))⟩
 f25:=⟨Tryz.f111.name,by decide,Tryz.func111.trans (congrArg some (by kernel_rfl))⟩
 f26:=⟨Tryz.f112.name,by decide,Tryz.func112.trans (congrArg some (by kernel_rfl))⟩
 f27:=⟨Tryz.f113.name,by decide,Tryz.func113.trans (congrArg some (by kernel_rfl))⟩
 f28:=Tryz.func114.trans (congrArg some (by kernel_rfl))
 f29:=Tryz.func115.trans (congrArg some (by kernel_rfl))
 f46:=⟨Tryz.f135.name,by decide,Tryz.func135.trans (congrArg some (by kernel_rfl))⟩
 f47:=Tryz.func136.trans (congrArg some (by kernel_rfl))
 f48:=Tryz.func137.trans (congrArg some (by kernel_rfl))
 f49:=⟨Tryz.f138.name,by decide,Tryz.func138.trans (congrArg some (by kernel_rfl))⟩
 f50:=⟨Tryz.f139.name,by decide,Tryz.func139.trans (congrArg some (by kernel_rfl))⟩
 f57:=⟨Tryz.f156.name,by decide,Tryz.func156.trans (congrArg some (by kernel_rfl))⟩
 t0:=Tryz.underlying0
 a0:=Tryz.isAgg0
 z0:=Tryz.sizeOf0
 v0:=Tryz.zeroValue0
 t3:=Tryz.underlying3
 a3:=Tryz.isAgg3
 z3:=Tryz.sizeOf3
 v3:=Tryz.zeroValue3
 t4:=Tryz.underlying4
 a4:=Tryz.isAgg4
 z4:=Tryz.sizeOf4
 v4:=Tryz.zeroValue4
 t5:=Tryz.underlying5
 a5:=Tryz.isAgg5
 z5:=Tryz.sizeOf5
 v5:=Tryz.zeroValue5
 t9:=Tryz.underlying9
 a9:=Tryz.isAgg9
 z9:=Tryz.sizeOf9
 v9:=Tryz.zeroValue9
 t22:=Tryz.underlying28
 a22:=Tryz.isAgg28
 z22:=Tryz.sizeOf28
 v22:=Tryz.zeroValue28
 t25:=Tryz.underlying88
 a25:=Tryz.isAgg88
 z25:=Tryz.sizeOf88
 v25:=Tryz.zeroValue88
 t39:=Tryz.underlying104
 a39:=Tryz.isAgg104
 z39:=Tryz.sizeOf104
 v39:=Tryz.zeroValue104
 t45:=Tryz.underlying183
 a45:=Tryz.isAgg183
 z45:=Tryz.sizeOf183
 v45:=Tryz.zeroValue183
 t46:=Tryz.underlying184
 a46:=Tryz.isAgg184
 z46:=Tryz.sizeOf184
 v46:=Tryz.zeroValue184
 t50:=Tryz.underlying188
 a50:=Tryz.isAgg188
 z50:=Tryz.sizeOf188
 v50:=Tryz.zeroValue188
 t53:=Tryz.underlying59
 a53:=Tryz.isAgg59
 z53:=Tryz.sizeOf59
 v53:=Tryz.zeroValue59
 t55:=Tryz.underlying80
 a55:=Tryz.isAgg80
 z55:=Tryz.sizeOf80
 v55:=Tryz.zeroValue80
 t66:=Tryz.underlying219
 a66:=Tryz.isAgg219
 z66:=Tryz.sizeOf219
 v66:=Tryz.zeroValue219
 t70:=Tryz.underlying223
 a70:=Tryz.isAgg223
 z70:=Tryz.sizeOf223
 v70:=Tryz.zeroValue223
 t76:=Tryz.underlying242
 a76:=Tryz.isAgg242
 z76:=Tryz.sizeOf242
 v76:=Tryz.zeroValue242
 t77:=Tryz.underlying243
 a77:=Tryz.isAgg243
 z77:=Tryz.sizeOf243
 v77:=Tryz.zeroValue243 }
end Go.Proofs
namespace Go.Proofs.YtombncedfleljaaGreat
section
set_option maxRecDepth 100000
open Go.RowKit Go.Shelf Go.Lib Go.Sort
def Ent:Type:={ p:List Int×Int // EntOk p }
instance:Inhabited Ent:=⟨⟨(List.replicate 32 0,0),⟨by simp,fun b hb=>by have:=(List.mem_replicate.1 hb).2;omega⟩,by constructor <;> decide⟩⟩
def k8(x:Ent):List Value:=aC x.1
def cfE(x y:Ent):Int:=dE x.1 y.1
theorem ltE(x y:Ent):ltOf cfE x y=decide (dE x.1 y.1<0):=rfl
theorem MC:SWO (ltOf cfE) where
 irrefl x:=by
  rw[ltE,(fG x.1 x.1).2 rfl];rfl
 trans x y z h1 h2:=by
  rw[ltE,decide_eq_true_eq] at *
  have h3:=j8 x.1 y.1 z.1 (by omega) (by omega);have hne:dE x.1 z.1≠0:=fun e=>by
   have e':=(fG _ _).1 e;rw[e'] at h1;have:=dV y.1 z.1;omega
  omega
 ntrans x y z h1 h2:=by
  rw[ltE,decide_eq_false_iff_not] at *
  have n1:=dV x.1 y.1;have n2:=dV y.1 z.1;have n3:=dV x.1 z.1;have h3:=j8 z.1 y.1 x.1 (by omega) (by omega);omega
theorem MD(x y:Ent)(h1:ltOf cfE x y=false)(h2:ltOf cfE y x=false):x=y:=by
 rw[ltE,decide_eq_false_iff_not] at *
 have n1:=dV x.1 y.1;exact Subtype.ext ((fG _ _).1 (by omega))
theorem G0{α:Type}(C:α→List Value)(s:Nat)(hlen:∀ r,(C r).length=s)(l:List α)(k j:Nat)(hk:k<l.length)(hj:j<s):(l.flatMap C)[k*s+j]? = (C l[k])[j]?:=by
 have e:l.flatMap C=(l.take k).flatMap C++(C l[k]++(l.drop (k+1)).flatMap C):=by
  conv=>lhs;rw[← List.take_append_drop k l,List.drop_eq_getElem_cons hk]
  rw[List.flatMap_append,List.flatMap_cons]
 have h1:((l.take k).flatMap C).length=k*s:=by
  have key:∀ m:List α,(m.flatMap C).length=m.length*s:=by
   intro m;induction m with
   | nil=>simp
   | cons r m ih=>simp[List.flatMap_cons,hlen r,ih,Nat.add_mul];omega
  rw[key,List.length_take,Nat.min_eq_left (by omega)]
 rw[e,List.getElem?_append_right (by omega),h1,Nat.add_sub_cancel_left,List.getElem?_append_left (by rw[hlen];exact hj)]
theorem k9(x:Ent):(k8 x).length=33:=aH x.1 x.2
theorem uV(d:Array Ent)(t:Nat)(h:t<d.size*33):(d.toList.flatMap k8)[t]? = some (flatK k8 33 d)[t]!:=by
 rw[get_flatK k8 33 d t h];have h1:t/33<d.toList.length:=by rw[Array.length_toList];omega
 have h2:t % 33<33:=Nat.mod_lt _ (by omega);have h3:=G0 k8 33 k9 d.toList (t/33) (t % 33) h1 h2;rw[show t/33*33+t % 33=t by omega] at h3;rw[h3];have h4:d[t/33]! = d.toList[t/33]:=by
  rw[getElem!_pos d (t/33) (by simpa using h1)];simp
 rw[h4];have h5:t % 33<(k8 d.toList[t/33]).length:=by rw[k9];exact h2
 rw[List.getElem?_eq_getElem h5,getElem!_pos (k8 d.toList[t/33]) (t % 33) h5]
theorem BB(w:World)(g n:Nat)(d:Array Ent)(os:Array Obj)(B:Nat)(hB:B≤g)(hs:B≤w.heap.size):Below B w (sortWorldK k8 33 w g 0 n d os):=by
 refine⟨rfl,rfl,rfl,?_,fun k hk=>?_⟩
 ·exact size_sortWorldK_c k8 33 w g 0 n d os
 ·show((mapBlock (Sort.ahead w n) g _).heap++os)[k]? = _;have hsz:(mapBlock (Sort.ahead w n) g (putCells id 0 (flatK k8 33 d))).heap.size=w.heap.size:=by simp[mapBlock,Sort.ahead]
  rw[Array.getElem?_append_left (by rw[hsz];omega)];simp only[mapBlock,Sort.ahead,Array.getElem?_modify];rw[if_neg (by omega)]
theorem ME:∀ w,(isAgg (Tryz.sortEnt_ren.t 24)).run Tryz.prog w = .ok true w:=fun w=>by kernel_rfl
theorem LY:∀ w,(Go.sizeOf (Tryz.sortEnt_ren.t 24)).run Tryz.prog w = .ok 33 w:=fun w=>by kernel_rfl
theorem G1(g:Nat)(size:Nat)(w:World):CmpLays Tryz.prog 60 #[] k8 33 cfE g 0 size w:=
 fun _ _ _ _ x y=>xH x.1 y.1 _ x.2 y.2
theorem G2(base n:Nat)(v:Value)(M:List (List Int×Int))(w:World)(hn:n=M.length)(hown:w.ownsRow base 35 33 v n (M.flatMap aC))(hok:∀ p∈M,EntOk p)(hl:M.length≤1000)(hbw:base≤w.heap.size):
  Calls Tryz.prog 59 #[v,.func (.func 60) #[] #[]] w fun e w'=>e = .returned (.tuple #[])∧∃ L:List (List Int×Int),L.Perm M∧L.Pairwise (fun p q=>dE p q≤0)∧Sn w' 33 v L.length (L.flatMap aC)∧Below base w w':=by
 subst hn;obtain⟨hlen,h|⟨g,cap,cur,rfl,hb,hh,hc1,hm,hcs,htk⟩⟩:=hown
 ·obtain⟨rfl,h0⟩:=h;have hM:M=[]:=List.eq_nil_of_length_eq_zero h0;subst hM;have hcon:=AnyF.slices_SortFunc_none Tryz.sortEnt none 0 (.func (.func 60) #[] #[]) w;change Calls Tryz.prog 59 _ _ _ at hcon;refine hcon.mono ?_;rintro e w' ⟨rfl,rfl⟩;exact⟨rfl,[],List.Perm.refl _,List.Pairwise.nil,⟨none,0,rfl,Nat.le_refl _,rfl,fun h=>absurd h (by simp)⟩,Below.refl _ _⟩
 ·obtain⟨d,hd⟩:∃ d:Array Ent,d.toList.map (·.1)=M:=⟨(M.attach.map fun p=>(⟨p.1,hok p.1 p.2⟩:Ent)).toArray,by
   rw[jt]
   exact List.map_map.trans (List.attach_map_subtype_val M)⟩
  have hsize:d.size=M.length:=by rw[← hd];simp
  have hfl:d.toList.flatMap k8=M.flatMap aC:=by rw[← hd,List.flatMap_map];rfl
  have hH:HoldsK k8 33 w g 0 d:=by
   intro j hj;rw[size_flatK] at hj;have hg:=uV d j hj;rw[hfl] at hg;refine⟨?_,frozen_of_row w g (0+j) cur _ hh⟩;rw[cell_of_row w g (0+j) cur _ (0,0) hh,Nat.zero_add];rw[← htk,List.getElem?_take] at hg;split at hg
   ·simpa using hg
   ·cases hg
  have hgl:g<w.heap.size:=by
   rcases Nat.lt_or_ge g w.heap.size with h'|h'
   ·exact h'
   ·rw[Array.getElem?_eq_none h'] at hh;cases hh
  have eg:∀ args w,(callFunc 60 args).run Tryz.prog w = .ok (.enter 60 args) w:=enters_of Tryz.func60 (by kernel_rfl) rfl;have hcon:=AnyQ.slices_SortFunc_total Tryz.sortEnt 33 ME LY k8 k9 (fun x u hu=>by
   have:=dK x.1.1 x.1.2
   simp only[List.all_toArray,List.all_eq_true] at this
   exact this u hu) cfE MC 60 #[] g 0 cap d w eg (G1 g d.size w) hH hgl (by omega) MD
  change Calls Tryz.prog 59 _ _ _ at hcon;rw[hsize] at hcon;refine hcon.mono ?_;rintro e w' ⟨rfl,m,os,rfl⟩;obtain⟨d',hd'⟩:∃ d':Array Ent,d'=(d.toList.mergeSort fun x y=>!(ltOf cfE) y x).toArray:=⟨_,rfl⟩;rw[← hd'];have hperm:d'.toList.Perm d.toList:=by rw[hd'];simpa using List.mergeSort_perm d.toList _
  have hsz':d'.size=d.size:=by rw[← Array.length_toList,hperm.length_eq,Array.length_toList]
  have hsorted:d'.toList.Pairwise (fun x y=>dE x.1 y.1≤0):=by
   rw[hd',jt];have h1:=List.pairwise_mergeSort (le:=fun x y:Ent=>!(ltOf cfE) y x) (fun x y z h1 h2=>by
    simp only[ltE,Bool.not_eq_true',decide_eq_false_iff_not] at *
    have n1:=dV x.1 y.1
    have n2:=dV y.1 z.1
    have n3:=dV x.1 z.1
    have:=j8 x.1 y.1 z.1 (by omega) (by omega)
    omega) (fun x y=>by
    simp only[ltE,Bool.or_eq_true,Bool.not_eq_true',decide_eq_false_iff_not]
    have n1:=dV x.1 y.1
    omega) d.toList
   refine h1.imp fun {x y} h=>?_
   simp only[ltE,Bool.not_eq_true',decide_eq_false_iff_not] at h;have n1:=dV x.1 y.1;omega
  have hH':=holdsK_sortWorldK_c k8 33 w g 0 d d' m os hH hgl hsz';refine⟨rfl,d'.toList.map (·.1),by rw[← hd];exact hperm.map _,?_,?_,BB w g m d' os base hb hbw⟩
  ·rw[List.pairwise_map];exact hsorted
  ·have hl2:(d'.toList.map (·.1)).length=M.length:=by rw[List.length_map,Array.length_toList,hsz',hsize]
   rw[hl2];have hfl':(d'.toList.map (·.1)).flatMap aC=d'.toList.flatMap k8:=by rw[List.flatMap_map];rfl
   have hlf:((d'.toList.map (·.1)).flatMap aC).length=M.length*33:=by
    rw[hfl',(hperm.flatMap_right k8).length_eq,hfl];exact hlen
   refine⟨_,cap,rfl,hc1,hlf,fun _=>⟨g,0,rfl,fun j u hj=>?_⟩⟩;have hjl:j<d'.size*33:=by
    have:=(List.getElem?_eq_some_iff.1 hj).1;rw[hlf] at this;rw[hsz',hsize];exact this
   rw[hfl',uV d' j hjl] at hj;have h1:=(hH' j (by rw[size_flatK];exact hjl)).1;rw[h1];exact hj
end
section
set_option maxRecDepth 100000
open Go.RowKit
theorem EY{w w':World}{base e s n:Nat}{v:Value}{xs:List Value}{r:Nat}(h:w.ownsRow base e s v n xs)(hg:w.grownBy w' (some r))(hr:r<base):w'.ownsRow base e s v n xs:=by
 refine⟨h.1,?_⟩;have hlt:=h.lt;rcases h.2 with h2|⟨g,cap,cur,rfl,hb,hh,k⟩
 ·exact .inl h2
 ·exact .inr ⟨g,cap,cur,rfl,hb,by rw[hg.block g (hlt g rfl).2 (fun e=>by injection e with e;omega)];exact hh,k⟩
theorem G3(g b n c:Nat)(f:List Int→Option Int)(now:Int)(w:World)(h:IX w g b n f c)(hn:n≤1000):
  Calls Tryz.prog 37 #[.pointer (some ⟨g,0,none⟩),.int .i64 now] w fun e w'=>∃(v:Value) (L:List (List Int×Int)),e = .returned v∧Sn w' 33 v L.length (L.flatMap aC)∧(∀ p:List Int×Int,p∈L ↔ EntOk p∧f p.1=some p.2∧now≤p.2)∧L.Pairwise (fun p q=>dE p q<0)∧Below w.heap.size w w'∧L.length≤c∧∀ b,v.ownBlock=some b→w.heap.size≤b∧b<w'.heap.size:=by
 obtain⟨hg,hgb,hm⟩:=h;have hc:=hm.le;go_enter Tryz.func37,Tryz.ntmps37
 go_wp2_with (at_range;refine GQ Tryz.underlying114 rfl _ rfl rfl hm ?_;intro w1 hR1 hg1 hs1)
 simp only[jq];have hb1:Below w.heap.size w w1:=⟨hg1.os,hg1.tape,hg1.output,hg1.size,fun k hk=>hg1.block k hk (by simp)⟩;have hblt:=hm.lt;have hglt:=fJ hg;go_loopw [5] (fun m wr=>∃(M:List (List Int×Int)) (cnt:Nat) (left:List Int→Bool),wr.ownsRow (w.heap.size+1) 35 33 m M.length (M.flatMap aC)∧DR wr b w.heap.size n f c left cnt∧Below w.heap.size w wr∧Hid (∀ p:List Int×Int,p∈M ↔ EntOk p∧f p.1=some p.2∧now≤p.2∧left p.1=false)∧M.length+cnt≤c∧M.Nodup) (fun _ wr=>wr.rangeLeft b w.heap.size)
 case atStart=>exact⟨[],c,_,World.ownsRow_nil _ _ _ _,hR1,hb1,jz (fun p=>by
  constructor
  ·intro h;simp at h
  ·rintro⟨_,h,_,h'⟩;rw[h] at h';simp at h'),by simp,List.nodup_nil⟩
 case round=>
  obtain⟨M,cnt,left,hown,hR,hb,HM,hMc,hnd⟩:=hrel;have hgr:=Below.cell' hb hg;have hcnt:=jz hR.left_eq;have hszr:=hb.size;have hRlt:=hR.lt;go_wp2_with (at_next;refine KK rfl _ rfl rfl hR ?_ ?_)
  ·intro h0 hall;have HOK:Hid (∀ p∈M,EntOk p):=jz fun p hp=>((HM.out p).1 hp).1
   have hM1:M.length≤1000:=by omega
   go_wp2_with fail
   refine(G2 (w.heap.size+1) M.length u5 M wr rfl hown HOK.out hM1 (by omega)).mono ?_;rintro e w2 ⟨rfl,L,hperm,hsorted,hsn,hbs⟩;go_wp2_with fail
   go_ret;have hndL:L.Nodup:=hperm.nodup_iff.2 hnd;refine⟨_,L,rfl,hsn,fun p=>?_,?_,hb.trans (hbs.mono (Nat.le_succ _)),by have:=hperm.length_eq;omega,fun b e=>⟨by have:=(hown.lt b e).1;omega,Nat.lt_of_lt_of_le (hown.lt b e).2 hbs.size⟩⟩
   ·rw[hperm.mem_iff,HM.out p];constructor
    ·rintro⟨k1,k2,k3,_⟩;exact⟨k1,k2,k3⟩
    ·rintro⟨k1,k2,k3⟩;exact⟨k1,k2,k3,hall p.1 k1.dig⟩
   ·refine(hsorted.and hndL).imp fun {p q} h=>?_
    have hne:dE p q≠0:=fun e=>h.2 ((fG p q).1 e)
    have:=h.1;omega
  ·intro d t w2 cnt' hd hti hl hfd hR2 hlt hg2 hs2 hen;have h1:=cS d;have hbuild:=tY d t hd.len;have hent:=iP hd t;have hbuild2:=D2 d t hd;have hbuild3:=jJ;have h32:(u8s d).length=32:=by simp[u8s,hd.len]
   have hb2:Below w.heap.size w w2:=⟨hg2.os.trans hb.os,hg2.tape.trans hb.tape,hg2.output.trans hb.output,by omega,fun i hi=>(hg2.block i (by omega) (fun e=>by injection e with e;omega)).trans (hb.block i hi)⟩;have hgr2:=Below.cell' hb2 hg;have hown2:w2.ownsRow (w.heap.size+1) 35 33 _ M.length (M.flatMap aC):=EY hown hg2 (by simp);have HS2:=jz hs2;have HLT:=jz hlt;clear hR hR1 hlt hs2 hown;rcases jb (decide (now≤t)) with t1|t1
   ·go_wp2_with (first
     | (refine cR 33 (.tmp 6) (.tmp 18) rfl rfl rfl rfl (by simp only[js,h32];kernel_rfl) (by simp only[js,h32] <;> rfl) h1 ?_;intro w3 hblk hb3 hs3;have hr3:=Blk.range hblk;rw[jt] at hr3;have hoA:=aX (aX hown2 hb3) (mD (Below.refl _ w3) (.cells (cY d t).toArray 35));have hnA:=Sn.new w3 (cY d t).toArray 35 33 1 (by simp[hent]);have hs3':w.heap.size+2≤w3.heap.size:=(by have:=HS2.out;omega);clear hs3)
     | (refine ld 33 _ rfl rfl rfl hr3 Tryz.underlying33 rfl (by rw[h32];kernel_rfl) ?_)
     | (at_builtin;refine app sF (.tmp 23) (.tmp 27) rfl rfl (v:=u5) rfl hoA rfl hnA (fun u hu=>by have:=dK d t;simp only[List.all_toArray,List.all_eq_true] at this;exact this u (by simpa using hu)) (by unfold maxLen;omega) (by omega) (by simp;omega) ?_;intro v4 w4 hown4 hg4 _))
    have hbA:Below w.heap.size w (w3.alloc (.cells (cY d t).toArray 35)):=(aB hb2 hb3).alloc (by omega) _;have hb4:Below w.heap.size w w4:=hbA.grown hg4 (by simp;omega) (fun g hg=>by have:=(hoA.lt g hg).1;omega);have hkeep:∀ k,k≤w.heap.size→w4.heap[k]? = w2.heap[k]?:=fun k hk=>by
     rw[hg4.block k (by simp;omega) (fun e=>by have:=(hoA.lt k e.symm).1;omega),Below.heap_alloc _ _ _ (by omega),hb3.block k (by have:=HS2.out;omega)]
    have hR4:=hR2.of_blocks (hkeep b (by omega)) (hkeep w.heap.size (Nat.le_refl _));have hlt:=of_decide_eq_true t1;refine⟨⟨M++[(d,t)],cnt',_,by rw[List.length_append,List.flatMap_append];simpa [aC] using hown4,hR4,hb4,jz fun p=>?_,by have:=HLT.out;simp only[List.length_append,List.length_cons,List.length_nil];omega,?_⟩,?_⟩
    ·rw[List.mem_append,HM.out p];have hfd0:=hfd;constructor
     ·rintro(⟨k1,k2,k3,k4⟩|h)
      ·exact⟨k1,k2,k3,by simp[k4]⟩
      ·obtain rfl:p=(d,t):=by simpa using h
       exact⟨⟨hd,hti⟩,hfd,hlt,by simp⟩
     ·rintro⟨k1,k2,k3,k4⟩;by_cases hpd:p.1=d
      ·refine .inr ?_;rw[hpd,hfd0] at k2;injection k2 with k2
       have:p=(d,t):=Prod.ext hpd k2.symm;simp[this]
      ·exact .inl ⟨k1,k2,k3,by simpa [hpd] using k4⟩
    ·refine List.nodup_append.2 ⟨hnd,by simp,fun x hx y hy=>?_⟩;obtain rfl:y=(d,t):=by simpa using hy
     rintro rfl;have:=((HM.out _).1 hx).2.2.2;rw[hl] at this;cases this
    ·rw[hcnt.out,hR4.left_eq];exact HLT.out
   ·go_wp2_with (refine cR 33 (.tmp 6) (.tmp 18) rfl rfl rfl rfl (by simp only[js,h32];kernel_rfl) (by simp only[js,h32] <;> rfl) h1 ?_;intro w3 hblk hb3 hs3)
    refine⟨⟨M,cnt',_,aX hown2 hb3,hR2.keep hb3,aB hb2 hb3,jz fun p=>?_,by have:=HLT.out;omega,hnd⟩,?_⟩
    ·have hlt:=of_decide_eq_false t1;rw[HM.out p];constructor
     ·rintro⟨k1,k2,k3,k4⟩;exact⟨k1,k2,k3,by simp[k4]⟩
     ·rintro⟨k1,k2,k3,k4⟩;refine⟨k1,k2,k3,?_⟩;by_cases hpd:p.1=d
      ·rw[hpd] at k2;rw[hfd] at k2;injection k2 with k2
       omega
      ·simpa [hpd] using k4
    ·rw[hcnt.out,(hR2.keep hb3).left_eq];exact HLT.out
end
section
open Go.RowKit
attribute [local irreducible] wpQuiet wpAnyH
def Bd(c:Nat)(d d':DiskD):Prop:=d'.steps≤d'.room∧d'.room≤d.room+c∧d'.sec.length=d.sec.length
theorem Bd.mono{c c':Nat}{d d':DiskD}(h:Bd c d d')(hc:c≤c'):Bd c' d d':=⟨h.1,by have:=h.2.1;omega,h.2.2⟩
theorem Bd.trans{a b:Nat}{d d' d'':DiskD}(h:Bd a d d')(k:Bd b d' d''):Bd (a+b) d d'':=⟨k.1,by have:=h.2.1;have:=k.2.1;omega,k.2.2.trans h.2.2⟩
theorem sK{d:DiskD}(h:d.steps≤d.room):Bd 1 d (stepped d):=⟨by show d.steps+1≤max d.room (d.steps+1);omega,by show max d.room (d.steps+1)≤d.room+1;omega,rfl⟩
theorem G4{d:DiskD}(h:d.steps≤d.room)(a:Int)(s:List Int):Bd 1 d (addIf d a s):=by
 unfold addIf;split
 ·exact⟨by show d.steps≤d.room+1;omega,Nat.le_refl _,rfl⟩
 ·exact⟨h,by omega,rfl⟩
theorem uW{d:DiskD}(h:d.steps≤d.room)(cl:List Int):Bd 0 d (eE d cl):=⟨h,Nat.le_refl _,cU _ _ _⟩
theorem uX{d:DiskD}(h:d.steps≤d.room)(a:Int)(s:List Int):Bd 2 d (writeD d a s):=by
 have h1:=sK h;have h2:=h1.trans (G4 h1.1 a s);unfold writeD;split
 ·exact⟨h,by omega,rfl⟩
 ·split
  ·exact h2.trans (uW h2.1 _)
  ·split
   ·exact h1.mono (by omega)
   ·exact h2
theorem sL{d:DiskD}(h:d.steps≤d.room):Bd 1 d (syncS d):=by
 have h1:=sK h;unfold syncS;split
 ·exact⟨h,by omega,rfl⟩
 ·split
  ·exact h1.trans (uW h1.1 _)
  ·split
   ·exact h1
   ·exact⟨h1.1,h1.2.1,fE _ _ _⟩
theorem BC{d:DiskD}(h:d.steps≤d.room)(a:Int)(s:List Int):Bd 3 d (wsD d a s):=by
 have h1:=uX h a s;unfold wsD;split
 ·exact h1.mono (by omega)
 ·exact h1.trans (sL h1.1)
theorem zD:∀(L:List (List Int)) (d:DiskD) (a:Int),d.steps≤d.room→Bd (2*L.length+1) d (fillW d a L).2
 | [],d,a,h=>(sL h).mono (by simp)
 | s :: L,d,a,h=>by
  have h1:=uX h a s;unfold fillW;split
  ·exact h1.mono (by simp;omega)
  ·exact(h1.trans (zD L _ _ h1.1)).mono (by simp;omega)
theorem zF{d:DiskD}(h:d.steps≤d.room)(f z:Int)(g:Nat)(l:List aW):Bd (2*l.length+1) d (fillR d f z g l).2:=by
 unfold fillR;split
 ·exact⟨h,by simp,rfl⟩
 ·split
  ·exact(zD _ _ _ h).mono (by simp)
  ·exact⟨h,by simp,rfl⟩
theorem iX{d:DiskD}{a:Int}(h:writeA d a=none)(s:List Int):d.down=false∧eD d a=true∧writeD d a s=q7 (stepped d) a s:=by
 unfold writeA at h;cases hd:d.down with
 | true=>rw[hd] at h;cases h
 | false=>
  rw[hd] at h;simp only[Bool.false_eq_true,if_false] at h;split at h
  ·cases h
  ·rename_i h2;split at h
   ·cases h
   ·rename_i h1;split at h
    ·rename_i hb;refine⟨rfl,hb,?_⟩;unfold writeD;rw[hd,if_neg h2,if_neg h1];unfold addIf;rw[show eD (stepped d) a=eD d a from rfl,hb];rfl
    ·cases h
theorem mQ{d:DiskD}(h:syncA d=none):d.down=false∧syncS d=yH (stepped d):=by
 unfold syncA at h;cases hd:d.down with
 | true=>rw[hd] at h;cases h
 | false=>
  rw[hd] at h;simp only[Bool.false_eq_true,if_false] at h;split at h
  ·cases h
  ·rename_i h2;split at h
   ·cases h
   ·rename_i h1;refine⟨rfl,?_⟩;unfold syncS;rw[hd,if_neg h2,if_neg h1];rfl
theorem mR:∀(L:List (List Int)) (d d':DiskD) (a:Int),fillW d a L=(none,d')→d'.down=false∧d'.opn=[]∧d'.sec=setAll d.sec (d.opn++wrs a L)
 | [],d,d',a,h=>by
  unfold fillW at h;injection h with h1 h2
  obtain⟨hd,hs⟩:=mQ h1;rw[← h2,hs,wrs,List.append_nil];exact⟨hd,rfl,rO _ _⟩
 | s :: L,d,d',a,h=>by
  unfold fillW at h;split at h
  ·cases h
  ·rename_i hw;obtain⟨hd,_,hW⟩:=iX hw s;obtain⟨h1,h2,h3⟩:=mR L _ d' _ h;refine⟨h1,h2,?_⟩;rw[h3,hW,wrs];show setAll d.sec (d.opn++[(a,s)]++wrs (a+1) L)=_;rw[List.append_assoc];rfl
theorem sM{d:DiskD}{a:Int}{s:List Int}(h:wsA d a s=none):(wsD d a s).down=false∧(wsD d a s).opn=[]∧(wsD d a s).sec=setAll d.sec (d.opn++[(a,s)]):=by
 unfold wsA at h;unfold wsD;split at h
 ·cases h
 ·rename_i hw;obtain⟨hd,_,hW⟩:=iX hw s;obtain⟨h1,h2⟩:=mQ h;show(syncS (writeD d a s)).down=_∧(syncS (writeD d a s)).opn=_∧(syncS (writeD d a s)).sec=_;rw[h2,hW];exact⟨hd,rfl,rO _ _⟩
def p6(fa:Ans)(fd:DiskD)(L:LogD)(wa:Ans)(wd:DiskD)(so g n:Nat):Ans×DiskD×LogD:=match fa with
 | some x=>(some x,fd,iT L x.1)
 | none=>match wa with
  | some x=>(some x,wd,iT L x.1)
  | none=>(none,wd,{ L with side:=so,gen:=g,cnt:=n })
def p7(d:DiskD)(h:Nat)(L:LogD)(qs:List aW)(g:Nat):Ans×DiskD×LogD:=
 p6 (fillR d (aY h (1-L.side)) h g qs).1 (fillR d (aY h (1-L.side)) h g qs).2 L (wsA (fillR d (aY h (1-L.side)) h g qs).2 (aY h (1-L.side)) (rec g toll)) (wsD (fillR d (aY h (1-L.side)) h g qs).2 (aY h (1-L.side)) (rec g toll)) (1-L.side) g qs.length
def rewR(d:DiskD)(h:Nat)(L:LogD)(qs:List aW):Ans×DiskD×LogD:=if L.brk then (some (11,none),d,L) else if max L.last L.gen=4294967295 then (some (13,none),d,L) else p7 d h L qs (max L.last L.gen+1)
theorem zG(qs:List aW)(A:Option Addr)(cap:Nat)(w:World)(m:DiskM)(d:DiskD)(gl h:Nat)(L:LogD)(k:LK w m d gl h L)(hs:Sn w 33 (.slice A qs.length cap) qs.length (qs.flatMap aC))(hok:∀ q∈qs,EntOk q)(hln:qs.length≤10000)(hr:d.room+30000≤100000):
  Calls Tryz.prog 36 #[.pointer (some ⟨gl,0,none⟩),.slice A qs.length cap] w fun e w'=>e = .returned (cC (rewR d h L qs).1)∧∃ m',LK w' m' (rewR d h L qs).2.1 gl h (rewR d h L qs).2.2∧LT gl w m w' m':=by
 have hh:=LogOk.h_le k;have HK:=jz k;have HS:=jz hs;have HOK:=jz hok;have HB:Hid (Blk w gl 109 (cH m.g h L)):=jz k.blk;obtain⟨c0,c5,c6,c7,c8,c9⟩:=k.cells;have hgl:=k.blk.lt;clear hs hok;cases hb:L.brk with
 | true=>
  have HV:Hid (rewR d h L qs=(some (11,none),d,L)):=jz (by unfold rewR;rw[if_pos hb]);rw[hb] at c9;clear hb k;go_enter Tryz.func36,Tryz.ntmps36
  go_wp2_with fail
  go_ret;exact⟨by rw[HV.out];rfl,m,by rw[HV.out];exact HK.out,LT.of_below (Below.refl _ _)⟩
 | false=>
  rw[hb] at c9;obtain⟨gm,hgm⟩:=je (max L.last L.gen);have hgi:max (L.last:Int) L.gen=gm:=by omega
  have HGI:=jz hgi;have HM4:Hid (gm<4294967296):=jz (by have h1:=k.ok.last;have h2:=k.ok.gen;omega);have HR1:Hid (rewR d h L qs=if gm=4294967295 then (some (13,none),d,L) else p7 d h L qs (gm+1)):=jz (by unfold rewR;rw[hb,hgm];rfl);have hsd:=k.ok.side;have HC:Hid (∀ W,Blk W gl 109 (cH m.g h L)→W.cell? ⟨gl,6,none⟩=some (.int .u32 L.last)∧W.cell? ⟨gl,7,none⟩=some (.int .u32 L.gen)):=jz (fun W hk=>⟨(hk.cell 6).trans rfl,(hk.cell 7).trans rfl⟩);clear hb hgm k hgi;go_enter Tryz.func36,Tryz.ntmps36
  go_upto_region 5 with fail
  obtain⟨wS,hwS⟩:=je w.drew;have HDS:Hid (Below w.heap.size w wS):=jz (by rw[hwS];exact(Below.refl _ _).drew);refine kZ (n:=10) (fun W=>Blk W gl 109 (cH m.g h L)) (by rw[← hwS];exact HB.keep HDS.out) (h:=fun hH=>?_);rw[← hwS] at hH ⊢;clear hwS;refine kM 0 (some 17) (.pointer (some ⟨gl,0,none⟩)) (h:=?_);simp only[jq];refine kT 1 (some 18) (.pointer (some ⟨gl,0,none⟩)) (h:=?_);simp only[jq];refine kT 2 (some 19) (.pointer (some ⟨gl,6,none⟩)) (h:=?_);simp only[jq];refine kC 3 (some 20) (v:=.int .u32 L.last) (fun _ hX=>(HC.out _ hX).1) (h:=?_);simp only[jq];refine kM 4 (some 21) (.pointer (some ⟨gl,0,none⟩)) (h:=?_);simp only[jq];refine kT 5 (some 22) (.pointer (some ⟨gl,0,none⟩)) (h:=?_);simp only[jq];refine kT 6 (some 23) (.pointer (some ⟨gl,7,none⟩)) (h:=?_);simp only[jq];refine kC 7 (some 24) (v:=.int .u32 L.gen) (fun _ hX=>(HC.out _ hX).2) (h:=?_);simp only[jq];refine kT 8 (some 25) (.int .u32 gm) (hy:=fun W hW=>by unfold execOp;rw[← HGI.out];go_simp) (h:=?_);simp only[jq];refine kT 9 (some 5) (.int .u32 gm) (h:=?_);simp only[jq];refine kE (h:=?_);obtain⟨so,hso⟩:∃ so,so=1-L.side:=⟨_,rfl⟩;have hsi:(1:Int)-L.side=so:=by omega
  have HSI:=jz hsi;have hso2:so<2:=by omega
  have hsdi:(L.side:Int)<2:=by omega
  have hsdi0:(0:Int)≤L.side:=by omega
  have HWS:Hid (Below w.heap.size w wS):=HDS;have HKS:Hid (LK wS m d gl h L):=jz (HK.keep HDS.out);have HST0:=jz (HS.below HDS.out);have d5:wS.cell? ⟨gl,5,none⟩=some (.int .i64 L.side):=(hH.cell 5).trans rfl;have HBS:Hid (Blk wS gl 109 (cH m.g h L)):=jz hH;have hgS:gl<wS.heap.size:=hH.lt;clear c0 c5 c6 c7 c8 c9 hsi hH;rcases Nat.lt_or_ge gm 4294967295 with hmx|hmx
  ·have t9:((gm:Int) == 4294967295)=false:=by rw[beq_eq_false_iff_ne];omega
   obtain⟨gn,hgn⟩:=je (gm+1);have HGN:Hid ((gm:Int)+1=gn):=jz (by omega);have HG4:Hid (gn<4294967296):=jz (by omega);have HM5:Hid ((gm:Int)<4294967295):=jz (by omega);have HV:Hid (rewR d h L qs=p7 d h L qs gn):=jz (by rw[HR1.out,if_neg (by omega),hgn]);clear hmx hgn;go_upto_region 8 with fail
   have hgm5:=HM5.out;go_upto_region 10 with fail
   rw[HGN.out,HSI.out];obtain⟨sf,hsf⟩:=je (aY h so);have HSF:Hid ((sf:Int)≤100000∧0≤(sf:Int)):=jz (by rw[hsf];exact⟨(AU hh).2,(AU (h:=h) (s:=so) hh).1⟩);have HSL:Hid (∀ W,Blk W gl 109 (cH m.g h L)→W.rangeAt gl (1+so*2) [.int .i64 sf,.int .i64 h]):=jz (fun W hk=>by rw[hsf];exact nH hk so hso2);have hso0:(0:Int)≤so:=by omega
   have hso1:(so:Int)<2:=by omega
   obtain⟨fa,hfa⟩:=je ((fillR d sf h gn qs).1);obtain⟨fd,hfd⟩:=je ((fillR d sf h gn qs).2);have HW2:Hid (rewR d h L qs=p6 fa fd L (wsA fd sf (rec gn toll)) (wsD fd sf (rec gn toll)) so gn qs.length):=jz (by rw[HV.out,hfa,hfd,hsf,hso];rfl);have HFD:Hid (Bd (2*qs.length+1) d fd):=jz (by rw[hfd];exact zF HK.dk.ok.st _ _ _ _);have HH2:Hid (h≤2048):=jz (by have h1:=HK.ok.half;have h2:=HK.dk.ok.few;omega);have HAP:=jz HK.ap;have HFC:=jz (fun W (hk:DK W m d) (hs:Sn W 33 (.slice A qs.length cap) qs.length (qs.flatMap aC))=>D7 sf h gn qs A cap W m d hk hs HOK.out ⟨HSF.out.2,HSF.out.1⟩ ⟨⟨by omega,by omega⟩,by have:=HH2.out;omega⟩ HG4.out (by omega) (by omega));rw[← hfa,← hfd] at HFC;clear hfa hfd hsf hso hgm5 d5 t9;obtain⟨wT,hwT⟩:=je wS.drew;have HDT:Hid (Below wS.heap.size wS wT):=jz (by rw[hwT];exact(Below.refl _ _).drew);have HKT:=jz (HKS.keep HDT.out);have HBT:Hid (Blk wT gl 109 (cH m.g h L)):=jz HKT.blk;have HST:=jz (HST0.below HDT.out);refine kZ (n:=14) (fun W=>Blk W gl 109 (cH m.g h L)) (by rw[← hwT];exact HBT.out) (h:=fun hH=>?_);rw[← hwT] at hH ⊢;clear hwT;refine kM 0 (some 36) (.pointer (some ⟨gl,0,none⟩)) (h:=?_);simp only[jq];refine kT 1 (some 37) (.pointer (some ⟨gl,0,none⟩)) (h:=?_);simp only[jq];refine kT 2 (some 38) (.pointer (some ⟨gl,0,none⟩)) (h:=?_);simp only[jq];refine kC 3 (some 39) (v:=.pointer (some ⟨m.g,0,none⟩)) (fun _ hX=>(hX.cell 0).trans rfl) (h:=?_);simp only[jq];refine kM 4 (some 40) (.pointer (some ⟨gl,0,none⟩)) (h:=?_);simp only[jq];refine kM 5 (some 41) (.int .i64 so) (h:=?_);simp only[jq];refine kT 6 (some 42) (.pointer (some ⟨gl,0,none⟩)) (h:=?_);simp only[jq];refine kT 7 (some 43) (.pointer (some ⟨gl,1,none⟩)) (h:=?_);simp only[jq];refine kT 8 (some 44) (.pointer (some ⟨gl,1+so*2,none⟩)) (h:=?_);simp only[jq];refine kL 9 (some 45) (cs:=[.int .i64 sf,.int .i64 h]) (fun _ hX=>HSL.out _ hX) (rfl) (h:=?_);simp only[jq];refine kM 10 (some 46) (.int .u32 gn) (h:=?_);simp only[jq];refine kM 11 (some 47) (.slice A qs.length cap) (h:=?_);simp only[jq];refine kF 12 (some 48) ((HFC.out wT HKT.dk HST.out).mono ?_);rintro e w5 ⟨rfl,m5,hk5,ht5⟩;refine⟨_,rfl,(ht5.off hH.lt HAP.out.1).trans hH,fun hH5=>?_⟩;simp only[jq];refine kT 13 (some 7) (cC fa) (h:=?_);simp only[jq];refine kE (h:=?_);have HKX:Hid (LK w5 m5 fd gl h L):=jz (HKT.disk hk5 ht5 HFD.out.2.2);have HTX:Hid (LT gl w m w5 m5):=jz ((LT.of_below (aB HWS.out HDT.out)).trans (LT.of_dt ht5));have HMG:Hid (m5.g=m.g):=jz ht5.g;clear hk5 ht5 hH hH5;cases fa with
   | some x=>
    obtain⟨t,u,hv⟩:=cV x;have HN:=jz (rU (some x) w5 m5 fd gl h L HKX.out);have HVE:=jz hv;rw[hv] at HN ⊢;have hne:=dS t u;clear hv;go_wp2_with fail
    refine HN.mono ?_;rintro e w6 ⟨rfl,hk6,ht6⟩;have HK6:=jz hk6;have HT6:=jz (HTX.trans ht6);clear hk6 ht6;go_wp2_with fail
    go_ret;exact⟨by rw[HW2.out];show _=Ending.returned (cC (some x));rw[HVE.out];rfl,m5,by rw[HW2.out];exact HK6.out,HT6.out⟩
   | none=>
    have hv:cC none = .nilIface:=rfl;have hnn:=nL;rw[hv];clear hv;have hg5:gl<w5.heap.size:=HKX.blk.lt;go_upto_region 13 with fail
    obtain⟨wa,hwa⟩:=je (wsA fd sf (rec gn toll));obtain⟨wd,hwd⟩:=je (wsD fd sf (rec gn toll));have HW3:Hid (rewR d h L qs=p6 none fd L wa wd so gn qs.length):=jz (by rw[HW2.out,hwa,hwd]);have HWL:Hid (wd.sec.length=fd.sec.length):=jz (by rw[hwd];exact j7 _ _ _);have HCC:=jz (fun W (hk:DK W m5 fd)=>pA sf h gn W m5 fd hk ⟨by have:=HSF.out.2;omega,by have:=HSF.out.1;omega⟩ HG4.out (by have:=HFD.out.2.1;omega));rw[← hwa,← hwd] at HCC;have HBX:Hid (Blk w5 gl 109 (cH m5.g h L)):=jz HKX.blk;have HSM:Hid (∀ W,Blk W gl 109 (cH m5.g h L)→W.rangeAt gl (1+so*2) [.int .i64 sf,.int .i64 h]):=jz (fun W hk=>HSL.out W (by rw[← HMG.out];exact hk));have HAX:=jz HKX.ap;clear hwa hwd;obtain⟨wU,hwU⟩:=je w5.drew;have HDU:Hid (Below w5.heap.size w5 wU):=jz (by rw[hwU];exact(Below.refl _ _).drew);have HKU:=jz (HKX.keep HDU.out);have HBU:Hid (Blk wU gl 109 (cH m5.g h L)):=jz HKU.blk;refine kZ (n:=13) (fun W=>Blk W gl 109 (cH m5.g h L)) (by rw[← hwU];exact HBU.out) (h:=fun hH=>?_);rw[← hwU] at hH ⊢;clear hwU;refine kM 0 (some 54) (.pointer (some ⟨gl,0,none⟩)) (h:=?_);simp only[jq];refine kT 1 (some 55) (.pointer (some ⟨gl,0,none⟩)) (h:=?_);simp only[jq];refine kT 2 (some 56) (.pointer (some ⟨gl,0,none⟩)) (h:=?_);simp only[jq];refine kC 3 (some 57) (v:=.pointer (some ⟨m5.g,0,none⟩)) (fun _ hX=>(hX.cell 0).trans rfl) (h:=?_);simp only[jq];refine kM 4 (some 58) (.pointer (some ⟨gl,0,none⟩)) (h:=?_);simp only[jq];refine kM 5 (some 59) (.int .i64 so) (h:=?_);simp only[jq];refine kT 6 (some 60) (.pointer (some ⟨gl,0,none⟩)) (h:=?_);simp only[jq];refine kT 7 (some 61) (.pointer (some ⟨gl,1,none⟩)) (h:=?_);simp only[jq];refine kT 8 (some 62) (.pointer (some ⟨gl,1+so*2,none⟩)) (h:=?_);simp only[jq];refine kL 9 (some 63) (cs:=[.int .i64 sf,.int .i64 h]) (fun _ hX=>HSM.out _ hX) (rfl) (h:=?_);simp only[jq];refine kM 10 (some 64) (.int .u32 gn) (h:=?_);simp only[jq];refine kF 11 (some 65) ((HCC.out wU HKU.dk).mono ?_);rintro e w9 ⟨rfl,m9,hk9,ht9⟩;refine⟨_,rfl,(ht9.off hH.lt HAX.out.1).trans hH,fun hH9=>?_⟩;simp only[jq];refine kT 12 (some 8) (cC wa) (h:=?_);simp only[jq];refine kE (h:=?_);have HKY:Hid (LK w9 m9 wd gl h L):=jz (HKU.disk hk9 ht9 HWL.out);have HTY:Hid (LT gl w m w9 m9):=jz ((HTX.trans (LT.of_below HDU.out)).trans (LT.of_dt ht9));clear hk9 ht9 hH hH9;cases wa with
    | some x=>
     obtain⟨t,u,hv⟩:=cV x;have HN:=jz (rU (some x) w9 m9 wd gl h L HKY.out);have HVE:=jz hv;rw[hv] at HN ⊢;have hne:=dS t u;clear hv;go_wp2_with fail
     refine HN.mono ?_;rintro e w6 ⟨rfl,hk6,ht6⟩;have HK6:=jz hk6;have HT6:=jz (HTY.trans ht6);clear hk6 ht6;go_wp2_with fail
     go_ret;exact⟨by rw[HW3.out];show _=Ending.returned (cC (some x));rw[HVE.out];rfl,m9,by rw[HW3.out];exact HK6.out,HT6.out⟩
    | none=>
     obtain⟨c0,c5,c6,c7,c8,c9⟩:=HKY.cells;have f5:=HKY.blk.frozen 5;have f7:=HKY.blk.frozen 7;have f8:=HKY.blk.frozen 8;have hg9:gl<w9.heap.size:=HKY.blk.lt;have hv:cC none = .nilIface:=rfl;rw[hv];clear hv;go_wp2_with fail
     go_ret;have HO:=HKY.ok;refine⟨by rw[HW3.out];rfl,m9,?_,((HTY.set 5 _).set 7 _).set 8 _⟩;rw[HW3.out];exact((HKY.set (L':={ L with side:=so }) 5 _ rfl ⟨hso2,HO.last,HO.gen,HO.cnt,HO.half⟩).set (L':={ L with side:=so,gen:=gn }) 7 _ rfl ⟨hso2,HO.last,HG4.out,HO.cnt,HO.half⟩).set 8 _ rfl ⟨hso2,HO.last,HG4.out,hln,HO.half⟩
  ·obtain rfl:gm=4294967295:=by have:=HM4.out;omega
   have HV:Hid (rewR d h L qs=(some (13,none),d,L)):=jz (by rw[HR1.out,if_pos rfl]);clear HR1 HGI;go_wp2_with fail
   go_ret;exact⟨by rw[HV.out];rfl,m,by rw[HV.out];exact HKS.out,LT.of_below HWS.out⟩
theorem DA:aK (cQ none):=⟨by decide,by decide⟩
theorem lA(c:Int)(o:Option Int)(h:aK c):aK (cQ (some (c,o))):=h
theorem pN(d:DiskD)(a:Int):aK (cQ (writeA d a)):=by
 unfold writeA;split
 ·exact⟨by decide,by decide⟩
 ·split
  ·exact⟨by decide,by decide⟩
  ·split
   ·exact⟨by decide,by decide⟩
   ·split
    ·exact⟨by decide,by decide⟩
    ·exact lA 15 _ ⟨by decide,by decide⟩
theorem mS(d:DiskD):aK (cQ (syncA d)):=by
 unfold syncA;split
 ·exact⟨by decide,by decide⟩
 ·split
  ·exact⟨by decide,by decide⟩
  ·split
   ·exact⟨by decide,by decide⟩
   ·exact⟨by decide,by decide⟩
theorem sN(d:DiskD)(a:Int)(s:List Int):aK (cQ (wsA d a s)):=by
 unfold wsA;split
 ·rename_i x h;rw[← h];exact pN d a
 ·exact mS _
theorem EZ(d:DiskD)(f z p:Int)(g:Nat)(q:aW):aK (cQ (putA d f z p g q)):=by
 unfold putA;split
 ·exact⟨by decide,by decide⟩
 ·split
  ·exact⟨by decide,by decide⟩
  ·split
   ·exact sN _ _ _
   ·exact⟨by decide,by decide⟩
theorem sO:∀(L:List (List Int)) (d:DiskD) (a:Int),aK (cQ (fillW d a L).1)
 | [],d,a=>mS d
 | s :: L,d,a=>by
  unfold fillW;split
  ·rename_i x h;show aK (cQ (some x));rw[← h];exact pN d a
  ·exact sO L _ _
theorem BD(d:DiskD)(f z:Int)(g:Nat)(l:List aW):aK (cQ (fillR d f z g l).1):=by
 unfold fillR;split
 ·exact lA 13 _ ⟨by decide,by decide⟩
 ·split
  ·exact sO _ _ _
  ·exact lA 15 _ ⟨by decide,by decide⟩
theorem uY(d:DiskD)(h:Nat)(L:LogD)(q:aW):aK (cQ (lW d h L q)):=by
 unfold lW;split
 ·exact lA 11 _ ⟨by decide,by decide⟩
 ·exact EZ _ _ _ _ _ _
theorem E0(d:DiskD)(h:Nat)(L:LogD)(qs:List aW):aK (cQ (rewR d h L qs).1):=by
 unfold rewR;split
 ·exact lA 11 _ ⟨by decide,by decide⟩
 ·split
  ·exact lA 13 _ ⟨by decide,by decide⟩
  ·unfold p7;have h1:=BD d (aY h (1-L.side)) h (max L.last L.gen+1) qs;have h2:=sN (fillR d (aY h (1-L.side)) h (max L.last L.gen+1) qs).2 (aY h (1-L.side)) (rec (max L.last L.gen+1) toll);unfold p6;split
   ·rename_i x hx;rw[hx] at h1;exact h1
   ·split
    ·rename_i x hx;rw[hx] at h2;exact h2
    ·exact DA
theorem BE(d:DiskD):aK (cQ (openR d).1):=by
 unfold openR;split
 ·exact lA 15 _ ⟨by decide,by decide⟩
 ·split
  ·rename_i x hx;show aK (cQ (some x));rw[← hx];exact mS d
  ·unfold fF;split
   ·exact DA
   ·split
    ·exact lA 13 _ ⟨by decide,by decide⟩
    ·split
     ·rename_i x hx;show aK (cQ (some x));rw[← hx];exact sN _ _ _
     ·exact DA
end
section
open Go.RowKit
section
variable {P : Program} {w : World}
end
end
end Go.Proofs.YtombncedfleljaaGreat
