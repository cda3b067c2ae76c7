import Derived.Test.YtiaigidbcljblaaGreatDoorMS13
import Derived.Test.YtiaigidbcljblaaGreatDoorMS14
import Derived.Shelf.SlSortCmp.NoneTotal
import Derived.OrdersIn
import Derived.Lib.ItoaNum
import Derived.Lib.ItoaMem
import Derived.IntWalk
set_option linter.unusedSimpArgs false
set_option maxRecDepth 100000
set_option maxHeartbeats 40000000
namespace Go.Proofs.YtiaigidbcljblaaGreatDoor
open Go.Proofs.Tryz
section
set_option maxRecDepth 100000
open Go.RowKit
attribute [local irreducible] gD fB
end
section
abbrev EL:=List (Wl×Int)
def WL(E:EL):Prop:=∃ f,Lists f E
theorem WL.nil:WL []:=⟨_,Lists.nil⟩
theorem WL.put{E:EL}(h:WL E){q:Wl×Int}(j:EntOk q):WL (fB E q).1:=by
 obtain⟨f,h⟩:=h;exact⟨_,(rY h j).1⟩
theorem WL.live{E:EL}(h:WL E)(now:Int):WL (bT E now):=by
 obtain⟨f,h⟩:=h;exact⟨_,h.live now⟩
theorem WL.of{l:EL}(h:∀ p∈l,EntOk p):WL (gD l):=⟨_,EF l h⟩
theorem WL.ok{E:EL}(h:WL E):∀ p∈E,EntOk p:=λp j=>by
 obtain⟨f,h⟩:=h;exact((h.mem p).1 j).1
def QO(E:EL)(d:Wl)(now:Int):Bool:=E.any λp=>decide (p.1=d) && decide (now<=p.2)
theorem Lists.hasq{F:Wl->Option Int}{W:EL}(h:Lists F W){d:Wl}(hd:DigOk d)(now:Int):QO W d now=((F d).isSome && decide (now<=(F d).getD 0)):=by
 unfold QO;cases hf:F d with
 | none=>
  rw[Option.isSome_none,Bool.false_and,List.any_eq_false];intro p j;have:=((h.mem p).1 j).2;simp only[Bool.and_eq_true,decide_eq_true_eq,not_and];rintro rfl;rw[hf] at this;cases this
 | some t=>
  simp only[Option.isSome_some,Option.getD_some,Bool.true_and];by_cases ht:now<=t
  ·rw[decide_eq_true ht,List.any_eq_true];exact⟨(d,t),(h.mem _).2 ⟨⟨hd,h.exp d t hd hf⟩,hf⟩,by simp[ht]⟩
  ·rw[decide_eq_false ht,List.any_eq_false];intro p j;have:=((h.mem p).1 j).2;simp only[Bool.and_eq_true,decide_eq_true_eq,not_and];rintro rfl;rw[hf] at this;injection this with this
   omega
theorem zU(E:EL)(now:Int):(bT E now).length<=E.length:=List.length_filter_le ..
set_option maxRecDepth 100000
open Go.RowKit Go.Shelf Go.Lib Go.Sort
def Ent:Type:={ p:Wl×Int // EntOk p }
instance:Inhabited Ent:=⟨⟨(List.replicate 32 0,0),⟨by simp,λb hb=>by have:=(List.mem_replicate.1 hb).2;omega⟩,by constructor <;> decide⟩⟩
def n5(x:Ent):Wv:=aO x.1
def cfE(x y:Ent):Int:=dP x.1 y.1
theorem ltE(x y:Ent):ltOf cfE x y=decide (dP x.1 y.1<0):=rfl
theorem swoE:SWO (ltOf cfE) where
 irrefl x:=by
  rw[ltE,(fY x.1 x.1).2 rfl];rfl
 trans x y z h1 h2:=by
  rw[ltE,decide_eq_true_eq] at *
  have D:=mM x.1 y.1 z.1 (by omega) (by omega);have I:dP x.1 z.1≠0:=λe=>by
   have j:=(fY _ _).1 e;rw[j] at h1;have:=dQ y.1 z.1;omega
  omega
 ntrans x y z h1 h2:=by
  rw[ltE,decide_eq_false_iff_not] at *
  have J:=dQ x.1 y.1;have K:=dQ y.1 z.1;have O:=dQ x.1 z.1;have D:=mM z.1 y.1 x.1 (by omega) (by omega);omega
theorem totE(x y:Ent)(h1:ltOf cfE x y=false)(j:ltOf cfE y x=false):x=y:=by
 rw[ltE,decide_eq_false_iff_not] at *
 have D:=dQ x.1 y.1;exact Subtype.ext ((fY _ _).1 (by omega))
theorem QP{α:Type}(C:α->Wv)(s:Nat)(x:∀ r,(C r).length=s)(l:List α)(k j:Nat)(I:k<l.length)(D:j<s):(l.flatMap C)[k*s+j]? = (C l[k])[j]?:=by
 have e:l.flatMap C=(l.take k).flatMap C++(C l[k]++(l.drop (k+1)).flatMap C):=by
  conv=>lhs;rw[<- List.take_append_drop k l,List.drop_eq_getElem_cons I]
  rw[List.flatMap_append,List.flatMap_cons]
 have h1:((l.take k).flatMap C).length=k*s:=by
  have key:∀ m:List α,(m.flatMap C).length=m.length*s:=by
   intro m;induction m with
   | nil=>simp
   | cons r m ih=>simp[List.flatMap_cons,x r,ih,Nat.add_mul];omega
  rw[key,jv,Nat.min_eq_left (by omega)]
 rw[e,jx (by omega),h1,Nat.add_sub_cancel_left,jy (by rw[x];exact D)]
theorem n7(x:Ent):(n5 x).length=33:=bC x.1 x.2
theorem zV(d:Array Ent)(t:Nat)(h:t<d.size*33):(d.toList.flatMap n5)[t]? = some (flatK n5 33 d)[t]!:=by
 rw[get_flatK n5 33 d t h];have h1:t/33<d.toList.length:=by rw[jk];omega
 have j:t % 33<33:=Nat.mod_lt _ (by omega);have x:=QP n5 33 n7 d.toList (t/33) (t % 33) h1 j;rw[show t/33*33+t % 33=t by omega] at x;rw[x];have I:d[t/33]! = d.toList[t/33]:=by
  rw[getElem!_pos d (t/33) (by simpa using h1)];simp
 rw[I];have D:t % 33<(n5 d.toList[t/33]).length:=by rw[n7];exact j
 rw[List.getElem?_eq_getElem D,getElem!_pos (n5 d.toList[t/33]) (t % 33) D]
theorem IG(w:Wd)(g n:Nat)(d:Array Ent)(os:Array Obj)(B:Nat)(x:B<=g)(hs:B<=w.heap.size):Below B w (sortWorldK n5 33 w g 0 n d os):=by
 refine⟨rfl,rfl,rfl,?_,λk D=>?_⟩
 ·exact size_sortWorldK_c n5 33 w g 0 n d os
 ·show((mapBlock (Sort.ahead w n) g _).heap++os)[k]? = _;have j:(mapBlock (Sort.ahead w n) g (putCells id 0 (flatK n5 33 d))).heap.size=w.heap.size:=by simp[mapBlock,Sort.ahead]
  rw[Array.getElem?_append_left (by rw[j];omega)];simp only[mapBlock,Sort.ahead,Array.getElem?_modify];rw[jQ (by omega)]
theorem aggE:∀ w,(isAgg (Tryz.sortEnt_ren.t 24)).run prog w = .ok true w:=λw=>by kernel_rfl
theorem ZT:∀ w,(Go.sizeOf (Tryz.sortEnt_ren.t 24)).run prog w = .ok 33 w:=λw=>by kernel_rfl
theorem QQ(g:Nat)(size:Nat)(w:Wd):CmpLays prog 179 #[] n5 33 cfE g 0 size w:=
 λ_ _ _ _ x y=>BV x.1 y.1 _ x.2 y.2
theorem QR(base n:Nat)(v:Value)(M:List (Wl×Int))(w:Wd)(hn:n=M.length)(a5:w.ownsRow base 172 33 v n (M.flatMap aO))(b0:∀ p∈M,EntOk p)(hl:M.length<=1000)(a7:base<=w.heap.size):
  Wc 178 #[v,.func (.func 179) #[] #[]] w λe w'=>e = .returned (.tuple #[])/\∃ L:List (Wl×Int),L.Perm M/\L.Pairwise (λp q=>dP p q<=0)/\Sn w' 33 v L.length (L.flatMap aO)/\Below base w w':=by
 subst hn;obtain⟨a3,h|⟨g,cap,Z,rfl,hb,hh,a8,hm,b7,b1⟩⟩:=a5
 ·obtain⟨rfl,h0⟩:=h;have hM:M=[]:=List.eq_nil_of_length_eq_zero h0;subst hM;have D:=AnyF.slices_SortFunc_none Tryz.sortEnt none 0 (.func (.func 179) #[] #[]) w;change Wc 178 _ _ _ at D;refine D.mono ?_;rintro e w' ⟨rfl,rfl⟩;exact⟨rfl,[],List.Perm.refl _,List.Pairwise.nil,⟨none,0,rfl,ja _,rfl,λh=>absurd h (by simp)⟩,ji _ _⟩
 ·obtain⟨d,hd⟩:∃ d:Array Ent,d.toList.map (·.1)=M:=⟨(M.attach.map λp=>(⟨p.1,b0 p.1 p.2⟩:Ent)).toArray,by
   rw[jt]
   exact List.map_map.trans (List.attach_map_subtype_val M)⟩
  have J:d.size=M.length:=by rw[<- hd];simp
  have a0:d.toList.flatMap n5=M.flatMap aO:=by rw[<- hd,List.flatMap_map];rfl
  have hH:HoldsK n5 33 w g 0 d:=by
   intro j V;rw[size_flatK] at V;have hg:=zV d j V;rw[a0] at hg;refine⟨?_,frozen_of_row w g (0+j) Z _ hh⟩;rw[cell_of_row w g (0+j) Z _ (0,0) hh,Nat.zero_add];rw[<- b1,List.getElem?_take] at hg;split at hg
   ·simpa using hg
   ·cases hg
  have a1:g<w.heap.size:=by
   rcases jo g w.heap.size with h'|h'
   ·exact h'
   ·rw[Array.getElem?_eq_none h'] at hh;cases hh
  have eg:∀ args w,(callFunc 179 args).run prog w = .ok (.enter 179 args) w:=enters_of func179 (by kernel_rfl) rfl;have D:=AnyQ.slices_SortFunc_total Tryz.sortEnt 33 aggE ZT n5 n7 (λx u hu=>by
   have:=iM x.1.1 x.1.2
   simp only[List.all_toArray,List.all_eq_true] at this
   exact this u hu) cfE swoE 179 #[] g 0 cap d w eg (QQ g d.size w) hH a1 (by omega) totE
  change Wc 178 _ _ _ at D;rw[J] at D;refine D.mono ?_;rintro e w' ⟨rfl,m,os,rfl⟩;obtain⟨d',U⟩:∃ d':Array Ent,d'=(d.toList.mergeSort λx y=>!(ltOf cfE) y x).toArray:=⟨_,rfl⟩;rw[<- U];have I:d'.toList.Perm d.toList:=by rw[U];simpa using List.mergeSort_perm d.toList _
  have O:d'.size=d.size:=by rw[<- jk,I.length_eq,jk]
  have K:d'.toList.Pairwise (λx y=>dP x.1 y.1<=0):=by
   rw[U,jt];have h1:=List.pairwise_mergeSort (le:=λx y:Ent=>!(ltOf cfE) y x) (λx y z h1 h2=>by
    simp only[ltE,Bool.not_eq_true',decide_eq_false_iff_not] at *
    have n1:=dQ x.1 y.1
    have n2:=dQ y.1 z.1
    have n3:=dQ x.1 z.1
    have:=mM x.1 y.1 z.1 (by omega) (by omega)
    omega) (λx y=>by
    simp only[ltE,Bool.or_eq_true,Bool.not_eq_true',decide_eq_false_iff_not]
    have n1:=dQ x.1 y.1
    omega) d.toList
   refine h1.imp λ{x y} h=>?_
   simp only[ltE,Bool.not_eq_true',decide_eq_false_iff_not] at h;have n1:=dQ x.1 y.1;omega
  have a6:=holdsK_sortWorldK_c n5 33 w g 0 d d' m os hH a1 O;refine⟨rfl,d'.toList.map (·.1),by rw[<- hd];exact I.map _,?_,?_,IG w g m d' os base hb a7⟩
  ·rw[List.pairwise_map];exact K
  ·have a9:(d'.toList.map (·.1)).length=M.length:=by rw[List.length_map,jk,O,J]
   rw[a9];have R:(d'.toList.map (·.1)).flatMap aO=d'.toList.flatMap n5:=by rw[List.flatMap_map];rfl
   have a4:((d'.toList.map (·.1)).flatMap aO).length=M.length*33:=by
    rw[R,(I.flatMap_right n5).length_eq,a0];exact a3
   refine⟨_,cap,rfl,a8,a4,λ_=>⟨g,0,rfl,λj u V=>?_⟩⟩;have a2:j<d'.size*33:=by
    have:=(List.getElem?_eq_some_iff.1 V).1;rw[a4] at this;rw[O,J];exact this
   rw[R,zV d' j a2] at V;have h1:=(a6 j (by rw[size_flatK];exact a2)).1;rw[h1];exact V
end
section
set_option maxRecDepth 100000
open Go.RowKit
theorem M7{w w':Wd}{base e s n:Nat}{v:Value}{D:Wv}{r:Nat}(h:w.ownsRow base e s v n D)(hg:w.grownBy w' (some r))(K:r<base):w'.ownsRow base e s v n D:=by
 refine⟨h.1,?_⟩;have x:=h.lt;rcases h.2 with I|⟨g,cap,j,rfl,hb,J,k⟩
 ·exact .inl I
 ·exact .inr ⟨g,cap,j,rfl,hb,by rw[hg.block g (x g rfl).2 (λe=>by injection e with e;omega)];exact J,k⟩
theorem QS(g b n c:Nat)(f:Wl->Option Int)(now:Int)(w:Wd)(h:IX w g b n f c)(hn:n<=1000):
  Wc 119 #[.pointer (some ⟨g,0,none⟩),.int .i64 now] w λe w'=>∃(v:Value) (L:List (Wl×Int)),e = .returned v/\Sn w' 33 v L.length (L.flatMap aO)/\(∀ p:Wl×Int,p∈L ↔ EntOk p/\f p.1=some p.2/\now<=p.2)/\L.Pairwise (λp q=>dP p q<0)/\Bw w w'/\L.length<=c/\∀ b,v.ownBlock=some b->w.heap.size<=b/\b<w'.heap.size:=by
 obtain⟨hg,g1,hm⟩:=h;have hc:=hm.le;go_enter func119,ntmps119
 go_wp2_with (at_range;refine P5 underlying292 rfl _ rfl rfl hm ?_;intro w1 b0 K g8)
 simp only[jq];have e0:Bw w w1:=⟨K.os,K.tape,K.output,K.size,λk hk=>K.block k hk (by simp)⟩;have f3:=hm.lt;have f5:=dW hg;go_loopw [5] (λm wr=>∃(M:List (Wl×Int)) (cnt:Nat) (left:Wl->Bool),wr.ownsRow (w.heap.size+1) 172 33 m M.length (M.flatMap aO)/\DR wr b w.heap.size n f c left cnt/\Bw w wr/\Hid (∀ p:Wl×Int,p∈M ↔ EntOk p/\f p.1=some p.2/\now<=p.2/\left p.1=false)/\M.length+cnt<=c/\M.Nodup) (λ_ wr=>wr.rangeLeft b w.heap.size)
 case atStart=>exact⟨[],c,_,World.ownsRow_nil _ _ _ _,b0,e0,jz (λp=>by
  constructor
  ·intro h;simp at h
  ·rintro⟨_,h,_,h'⟩;rw[h] at h';simp at h'),by simp,List.nodup_nil⟩
 case round=>
  obtain⟨M,cnt,left,D,hR,hb,HM,f9,a7⟩:=hrel;have g2:=j9 hb hg;have a3:=jz hR.left_eq;have f8:=hb.size;have f2:=hR.lt;go_wp2_with (at_next;refine XF rfl _ rfl rfl hR ?_ ?_)
  ·intro h0 b7;have d5:Hid (∀ p∈M,EntOk p):=jz λp hp=>((HM p).1 hp).1
   have d7:M.length<=1000:=by omega
   go_wp2_with fail
   refine(QR (w.heap.size+1) M.length u5 M wr rfl D d5 d7 (by omega)).mono ?_;rintro e w2 ⟨rfl,L,I,Z,f0,c2⟩;go_wp2_with fail
   go_ret;have c7:L.Nodup:=I.nodup_iff.2 a7;refine⟨_,L,rfl,f0,λp=>?_,?_,hb.trans (c2.mono (Nat.le_succ _)),by have:=I.length_eq;omega,λb e=>⟨by have:=(D.lt b e).1;omega,jp (D.lt b e).2 c2.size⟩⟩
   ·rw[I.mem_iff,HM.out p];constructor
    ·rintro⟨k1,k2,k3,_⟩;exact⟨k1,k2,k3⟩
    ·rintro⟨k1,k2,k3⟩;exact⟨k1,k2,k3,b7 p.1 k1.dig⟩
   ·refine(Z.and c7).imp λ{p q} h=>?_
    have g3:dP p q≠0:=λe=>h.2 ((fY p q).1 e)
    have:=h.1;omega
  ·intro d t w2 a1 hd f1 hl a6 a4 U O d0 g0;have h1:=dN d;have d2:=zC d t hd.len;have hent:=lF hd t;have c3:=L8 d t hd;have c4:=mH;have J:(u8s d).length=32:=by simp[u8s,hd.len]
   have a5:Bw w w2:=⟨O.os.trans hb.os,O.tape.trans hb.tape,O.output.trans hb.output,by omega,λi hi=>(O.block i (by omega) (λe=>by injection e with e;omega)).trans (hb.block i hi)⟩;have f6:=j9 a5 hg;have V:w2.ownsRow (w.heap.size+1) 172 33 _ M.length (M.flatMap aO):=M7 D O (by simp);have a9:=jz d0;have a0:=jz U;clear hR b0 U d0 D;rcases jb (decide (now<=t)) with t1|t1
   ·go_wp2_with (first
     | (refine bZ 26 (.tmp 6) (.tmp 18) rfl rfl rfl rfl (by simp only[js,J];kernel_rfl) (by simp only[js,J] <;> rfl) h1 ?_;intro w3 a2 j d1;have c9:=Blk.range a2;rw[jt] at c9;have hoA:=aK (aK V j) (XP (ji _ w3) (.cells (cW d t).toArray 172));have hnA:=Sn.new w3 (cW d t).toArray 172 33 1 (by simp[hent]);have f7:w.heap.size+2<=w3.heap.size:=(by have:=a9.out;omega);clear d1)
     | (refine ld 26 _ rfl rfl rfl c9 underlying26 rfl (by rw[J];kernel_rfl) ?_)
     | (at_builtin;refine app ZM (.tmp 23) (.tmp 27) rfl rfl (v:=u5) rfl hoA rfl hnA (λu hu=>by have:=iM d t;simp only[List.all_toArray,List.all_eq_true] at this;exact this u (by simpa using hu)) (by unfold maxLen;omega) (by omega) (by simp;omega) ?_;intro v4 w4 a8 c6 _))
    have e8:Bw w (w3.alloc (.cells (cW d t).toArray 172)):=(aA a5 j).alloc (by omega) _;have e1:Bw w w4:=e8.grown c6 (by simp;omega) (λg hg=>by have:=(hoA.lt g hg).1;omega);have R:∀ k,k<=w.heap.size->w4.heap[k]? = w2.heap[k]?:=λk hk=>by
     rw[c6.block k (by simp;omega) (λe=>by have:=(hoA.lt k e.symm).1;omega),Below.heap_alloc _ _ _ (by omega),j.block k (by have:=a9.out;omega)]
    have b1:=a4.of_blocks (R b (by omega)) (R w.heap.size (ja _));have U:=of_decide_eq_true t1;refine⟨⟨M++[(d,t)],a1,_,by rw[jj,List.flatMap_append];simpa [aO] using a8,b1,e1,jz λp=>?_,by have:=a0.out;simp only[jj,List.length_cons,List.length_nil];omega,?_⟩,?_⟩
    ·rw[ju,HM.out p];have c5:=a6;constructor
     ·rintro(⟨k1,k2,k3,k4⟩|h)
      ·exact⟨k1,k2,k3,by simp[k4]⟩
      ·obtain rfl:p=(d,t):=by simpa using h
       exact⟨⟨hd,f1⟩,a6,U,by simp⟩
     ·rintro⟨k1,k2,k3,k4⟩;by_cases hpd:p.1=d
      ·refine .inr ?_;rw[hpd,c5] at k2;injection k2 with k2
       have:p=(d,t):=Prod.ext hpd k2.symm;simp[this]
      ·exact .inl ⟨k1,k2,k3,by simpa [hpd] using k4⟩
    ·refine List.nodup_append.2 ⟨a7,by simp,λx hx y hy=>?_⟩;obtain rfl:y=(d,t):=by simpa using hy
     rintro rfl;have:=((HM _).1 hx).2.2.2;rw[hl] at this;cases this
    ·rw[a3.out,b1.left_eq];exact a0.out
   ·go_wp2_with (refine bZ 26 (.tmp 6) (.tmp 18) rfl rfl rfl rfl (by simp only[js,J];kernel_rfl) (by simp only[js,J] <;> rfl) h1 ?_;intro w3 a2 j d1)
    refine⟨⟨M,a1,_,aK V j,a4.keep j,aA a5 j,jz λp=>?_,by have:=a0.out;omega,a7⟩,?_⟩
    ·have U:=of_decide_eq_false t1;rw[HM.out p];constructor
     ·rintro⟨k1,k2,k3,k4⟩;exact⟨k1,k2,k3,by simp[k4]⟩
     ·rintro⟨k1,k2,k3,k4⟩;refine⟨k1,k2,k3,?_⟩;by_cases hpd:p.1=d
      ·rw[hpd] at k2;rw[a6] at k2;injection k2 with k2
       omega
      ·simpa [hpd] using k4
    ·rw[a3.out,(a4.keep j).left_eq];exact a0.out
end
section
open Go.RowKit
section
variable {P : Program} {ops : Array Oper} {Q : Exit -> Act -> Wd -> Prop} {S : Wd -> Prop} {a : Act} {w : Wd} {l m : Nat}
theorem ZU{o:Oper}{K:Act->Wd->Prop}{r:Result Next}(h:o.upon P a K Q r):o.uponIn (Fence.wide.inRound l) m P a K Q r:=by
 cases r with
 | ok x w'=>
  cases x with
  | enter f args=>exact⟨(λe=>by cases e),CallsIn.inRound l (callsIn_wide.2 h)⟩
  | row row args=>exact⟨(λe=>by cases e),λc cs _=>let ⟨v,w2,r,s⟩:=h c cs;⟨v,w2,r,stepsIn_wide.2 s⟩⟩
  | _=>first|exact h|exact h.elim
 | halt x w'=>cases x <;> first|exact h|exact h.elim
theorem ZV{o:Oper}{K:Act->Wd->Prop}(hd:∀ c,o.op≠.defer c)(h:o.wp P a w K Q):o.wpIn (Fence.wide.inRound l) m P a w K Q:=by
 refine⟨λf _=>trivial,?_⟩;rw[Oper.semAt_eq _ _ _ hd];exact ZU h
def B6(ops:Array Oper):Bool:=ops.all λo=>match o.op with
 | .defer _=>false
 | _=>true
theorem VF(hd:B6 ops=true)(x:¬LetsOut Q):∀(fuel:Nat) (listed:Array Bool) (a:Act) (w:Wd),wpAny P .any ops Q fuel listed a w->wpAnyIn (Fence.wide.inRound l) m P .any ops Q fuel listed a w
 | 0,_,_,_,h=>h
 | fuel+1,listed,a,w,h=>by
  refine⟨h.1,λi hi=>?_⟩;have j:=h.2 i hi;unfold wpOp at j;unfold wpOpIn;cases ho:ops[i]? with
  | none=>
   rw[ho] at j;exact VF hd x fuel _ _ _ j
  | some o=>
   rw[ho] at j;simp only at j ⊢;have D:∀ c,o.op≠.defer c:=λc e=>by
    unfold B6 at hd;have J:=Array.all_eq_true_iff_forall_mem.1 hd o (Array.mem_of_getElem? ho);rw[e] at J;cases J
   split
   ·rename_i I;rw[jP I] at j;rcases j with j|j
    ·exact Oper.wpIn_mono (λa w h=>VF hd x fuel _ a w h) (ZV D j)
    ·exact absurd j.2 x
   ·rename_i I;rw[jQ I] at j;exact⟨λf _=>trivial,VF hd x fuel _ _ _ j⟩
theorem kZr{n:Nat}(S:Wd->Prop){I:Nat}(hS:S w.drew)(j:¬LetsOut Q)(x:P.follows .mixedOrders=true:=by kernel_rfl)(D:ops.size=n:=by kernel_rfl)(hd:B6 ops=true:=by kernel_rfl)
  (h:S w.drew->wpAnyH P .any ops Q S n (Array.replicate n false) a w.drew):(Code.region I ops true).wpIn (Fence.wide.inRound l) m P Q a w:=by
 subst D;exact wpIn_region_any x (VF hd j _ _ _ _ (wpAny_of_held _ _ _ _ (h hS)))
end
end
section
open Go.RowKit
theorem mO(u:Nat):∀ k,u<10 ^ (k+1)->Lib.nDigits u<=k+1:=by
 intro k;induction k generalizing u with
 | zero=>intro h;unfold Lib.nDigits;rw[dif_pos (by simpa using h)];omega
 | succ k ih=>
  intro h;unfold Lib.nDigits;split
  ·omega
  ·have:=ih (u/10) (by rw[Nat.div_lt_iff_lt_mul (by omega)];rw[Nat.pow_succ] at h;omega);omega
theorem kY(n:Int)(j : -9223372036854775808<=n)(h1:n<=9223372036854775807):(Lib.itoa n).length<=20:=by
 unfold Lib.itoa;split
 ·have:=mO n.natAbs 18 (by omega);rw[<- Lib.decDigits_length] at this;simp;omega
 ·have:=mO n.toNat 18 (by omega);rw[<- Lib.decDigits_length] at this;omega
end
section
abbrev Bs:=List UInt8
structure OpD where
 kind:Int
 n:Int
 data:Bs
 cuts:Wl
def op0:OpD:=⟨0,0,[],[]⟩
def iP(c:Wl):Bool:=c.all λx=>decide (0<=x) && decide (x<=64)
def aD(o:OpD):Bool:=
  (o.kind == 3 || o.data.isEmpty) && ((o.kind == 6 || o.cuts.isEmpty) &&
  (if o.kind = 1 then decide (0 <= o.n) && decide (o.n <= 1099511627776)
   else if o.kind = 2 then o.n == 0
   else if o.kind = 3 then o.n == 0 && decide (o.data.length <= 131072)
   else if o.kind = 4 then o.n == 0
   else if o.kind = 5 then decide (1 <= o.n) && decide (o.n <= 1048576)
   else if o.kind = 6 then decide (0 <= o.n) && (decide (o.n <= 1048576) && (iP o.cuts && decide (o.cuts.length <= 20)))
   else false))
def b8(k:Int):Bs:=
 if k=1 then [116,105,99,107] else if k=2 then [98,111,111,116] else if k=3 then [118,101,114,105,102,121]
 else if k=4 then [99,111,109,112,97,99,116] else if k=5 then [102,97,105,108] else if k=6 then [99,114,97,115,104] else []
def nJ(d:Nat):UInt8:=if d<10 then UInt8.ofNat (48+d) else UInt8.ofNat (87+d)
def iB(l:Bs):Bs:=l.flatMap λb=>[nJ (b.toNat/16),nJ (b.toNat % 16)]
def jA(c:Wl):Bs:=c.flatMap λx=>32 :: Lib.itoa x
def eD(k:Int):Bool:=k == 1 || (k == 5 || k == 6)
def s9(o:OpD):Bs:=b8 o.kind++(if eD o.kind then 32 :: Lib.itoa o.n else [])++jA o.cuts++(if o.data.isEmpty then [] else 32 :: iB o.data)
def e9(o:OpD):Bs:=if aD o then s9 o else []
def dK(b:UInt8):Bool:=decide (48<=b.toNat) && decide (b.toNat<=57)
def gP(s:Bs):Nat:=s.foldl (λn b=>n*10+(b.toNat-48)) 0
def gJ(s:Bs):Option Nat:=if decide (1<=s.length) && (decide (s.length<=13) && ((s.head? != some 48 || s.length == 1) && s.all dK)) then some (gP s) else none
def gC(b:UInt8):Nat:=if 48<=b.toNat/\b.toNat<=57 then b.toNat-48 else if 97<=b.toNat/\b.toNat<=102 then b.toNat-87 else 99
def iQ:Bs->Option Bs
 | []=>some []
 | [_]=>none
 | x :: y :: r=>if gC x<=15/\gC y<=15 then (iQ r).map (UInt8.ofNat (gC x*16+gC y) :: ·) else none
def split(c:UInt8):Bs->List Bs
 | []=>[[]]
 | x :: s=>if x=c then [] :: split c s else (x :: (split c s).headD []) :: (split c s).tail
def fS:List Bs->Option Wl
 | []=>some []
 | x :: xs=>(gJ x).bind fun(n:Nat)=>(fS xs).map λl=>(n:Int) :: l
def d6(w:Bs):Int:=
 if w=b8 1 then 1 else if w=b8 2 then 2 else if w=b8 3 then 3 else if w=b8 4 then 4 else if w=b8 5 then 5 else if w=b8 6 then 6 else 0
def opW(k:Int)(r:List Bs):Option OpD:=
 if k=1\/k=5 then (match r with | [x]=>(gJ x).map fun(n:Nat)=>OpD.mk k (n:Int) [] []|_=>none)
 else if k=2\/k=4 then (match r with | []=>some ⟨k,0,[],[]⟩|_=>none)
 else if k=3 then (match r with | []=>some ⟨3,0,[],[]⟩ | [x]=>if x=[] then none else (iQ x).map λd=>OpD.mk 3 0 d []|_=>none)
 else if k=6 then (match r with|x :: xs=>(gJ x).bind fun(n:Nat)=>(fS xs).map λcs=>OpD.mk 6 (n:Int) [] cs|_=>none)
 else none
def cU(s:Bs):Option OpD:=(opW (d6 ((split 32 s).headD [])) (split 32 s).tail).bind λo=>if aD o then some o else none

/-! ### Numbers -/
theorem oZ(s:Bs)(b:UInt8):gP (s++[b])=gP s*10+(b.toNat-48):=by simp[gP,List.foldl_append]
theorem ofNat_toNat{n:Nat}(h:n<256):(UInt8.ofNat n).toNat=n:=by simpa using Nat.mod_eq_of_lt h
theorem uO{u:Nat}(h:10<=u):Lib.decDigits u=Lib.decDigits (u/10)++[UInt8.ofNat (48+u % 10)]:=by
 rw[Lib.decDigits,dif_neg (by omega)]
theorem QT(u:Nat):gP (Lib.decDigits u)=u:=by
 induction u using Nat.strongRecOn with
 | _ u ih=>
  by_cases h:u<10
  ·rw[Lib.decDigits_one h];simp only[gP,List.foldl_cons,List.foldl_nil];rw[ofNat_toNat (by omega)];omega
  ·rw[uO (by omega),oZ,ih (u/10) (by omega),ofNat_toNat (by omega)];omega
theorem EP{d:Nat}(h:d<10):dK (UInt8.ofNat (48+d))=true:=by
 unfold dK;rw[ofNat_toNat (by omega)];simp;omega
theorem K0(u:Nat):(Lib.decDigits u).all dK=true:=by
 induction u using Nat.strongRecOn with
 | _ u ih=>
  by_cases h:u<10
  ·rw[Lib.decDigits_one h];rw[List.all_cons,EP h];rfl
  ·rw[uO (by omega),List.all_append,ih (u/10) (by omega)];rw[List.all_cons,EP (show u % 10<10 by omega)];rfl
theorem YC(u:Nat):Lib.decDigits u≠[]:=by
 intro h;have:=Lib.decDigits_length u;rw[h] at this;have:=Lib.nDigits_pos u;simp at *
 omega
theorem QU(u:Nat)(h1:1<=u):(Lib.decDigits u).head?≠some 48:=by
 induction u using Nat.strongRecOn with
 | _ u ih=>
  by_cases h:u<10
  ·rw[Lib.decDigits_one h];intro e;have e:UInt8.ofNat (48+u)=48:=by simpa using e
   have:(UInt8.ofNat (48+u)).toNat=48:=by rw[e];rfl
   rw[ofNat_toNat (by omega)] at this;omega
  ·have hi:=ih (u/10) (by omega) (by omega);obtain⟨x,t,e⟩:=List.exists_cons_of_ne_nil (YC (u/10));rw[e] at hi;rw[uO (by omega),e];exact hi
theorem zW(n:Int)(D:0<=n)(h1:n<10000000000000):gJ (Lib.itoa n)=some n.toNat:=by
 obtain⟨u,rfl⟩:=Int.eq_ofNat_of_zero_le D;rw[Lib.itoa_nonneg];have j:=mO u 12 (by omega);rw[<- Lib.decDigits_length] at j;have x:=Lib.nDigits_pos u;rw[<- Lib.decDigits_length] at x;unfold gJ;rw[jP,QT]
 ·rfl
 ·simp only[Bool.and_eq_true,decide_eq_true_eq,Bool.or_eq_true,bne_iff_ne,beq_iff_eq];refine⟨x,j,?_,K0 u⟩;rcases jo u 10 with h|h
  ·right;rw[Lib.decDigits_one h];rfl
  ·left;exact QU u (by omega)
theorem QV:∀(k:Nat) (s:Bs),s.length=k->s≠[]->(s.head?≠some 48\/s.length=1)->s.all dK=true->Lib.decDigits (gP s)=s:=by
 intro k;induction k with
 | zero=>intro s h j;exact absurd (List.length_eq_zero_iff.1 h) j
 | succ k ih=>
  intro s J j I hd;obtain⟨t,b,rfl⟩:∃ t b,s=t++[b]:=⟨s.dropLast,s.getLast j,(List.dropLast_concat_getLast j).symm⟩;rw[List.all_append,Bool.and_eq_true] at hd;have hb:dK b=true:=by simpa using hd.2
  unfold dK at hb;simp only[Bool.and_eq_true,decide_eq_true_eq] at hb;have eb:UInt8.ofNat (48+(b.toNat-48))=b:=by
   rw[show 48+(b.toNat-48)=b.toNat by omega];simp
  rw[oZ];rcases t with _|⟨x,t⟩
  ·show Lib.decDigits (gP []*10+(b.toNat-48))=[b];rw[show gP []*10+(b.toNat-48)=b.toNat-48 by simp[gP],Lib.decDigits_one (by omega),eb]
  ·have D:(x :: t).head?≠some 48:=by
    rcases I with h|h
    ·simpa using h
    ·simp at h
   have ht:=ih (x :: t) (by simp at J ⊢;omega) (by simp) (.inl D) hd.1;have K:1<=gP (x :: t):=by
    rcases Nat.eq_zero_or_pos (gP (x :: t)) with h|h
    ·rw[h,Lib.decDigits_one (by omega)] at ht;rw[<- ht] at D;exact absurd rfl D
    ·exact h
   rw[uO (by omega),show(gP (x :: t)*10+(b.toNat-48))/10=gP (x :: t) by omega,show(gP (x :: t)*10+(b.toNat-48)) % 10=b.toNat-48 by omega,ht,eb]
theorem B7:∀(k:Nat) (s:Bs),s.length=k->s.all dK=true->gP s<10 ^ k:=by
 intro k;induction k with
 | zero=>intro s h _;rw[List.length_eq_zero_iff.1 h];simp[gP]
 | succ k ih=>
  intro s x hd;have j:s≠[]:=by intro e;rw[e] at x;simp at x
  obtain⟨t,b,rfl⟩:∃ t b,s=t++[b]:=⟨s.dropLast,s.getLast j,(List.dropLast_concat_getLast j).symm⟩;rw[List.all_append,Bool.and_eq_true] at hd;have hb:dK b=true:=by simpa using hd.2
  unfold dK at hb;simp only[Bool.and_eq_true,decide_eq_true_eq] at hb;have:=ih t (by simp at x;omega) hd.1;rw[oZ,Nat.pow_succ];omega
theorem M8{s:Bs}{n:Nat}(h:gJ s=some n):Lib.itoa (n:Int)=s/\n<10000000000000:=by
 unfold gJ at h;split at h
 ·rename_i x;simp only[Bool.and_eq_true,decide_eq_true_eq,Bool.or_eq_true,bne_iff_ne,beq_iff_eq] at x;obtain⟨h1,D,I,j⟩:=x;obtain rfl:gP s=n:=by simpa using h
  refine⟨?_,?_⟩
  ·rw[Lib.itoa_nonneg];exact QV _ s rfl (by intro e;rw[e] at h1;simp at h1) I j
  ·exact jp (B7 _ s rfl j) (jm (Nat.pow_le_pow_right (by omega) D) (by decide))
 ·cases h
theorem zX(n:Int)(h:0<=n)(c:UInt8)(j:dK c=false):c ∉ Lib.itoa n:=by
 obtain⟨u,rfl⟩:=Int.eq_ofNat_of_zero_le h;rw[Lib.itoa_nonneg];intro x;have:=List.all_eq_true.1 (K0 u) c x;rw[j] at this;cases this

/-! ### Hexadecimal digits -/
theorem zY:∀ d,d<16->gC (nJ d)=d:=by decide
theorem zZ(c:UInt8)(h:gC c<=15):nJ (gC c)=c:=by
 have key:∀ n,n<256->gC (UInt8.ofNat n)<=15->nJ (gC (UInt8.ofNat n))=UInt8.ofNat n:=by decide +kernel
 have:=key c.toNat (UInt8.toNat_lt c);simp only[UInt8.ofNat_toNat] at this;exact this h
theorem z6:∀ l:Bs,iQ (iB l)=some l
 | []=>rfl
 | b :: l=>by
  have hb:=UInt8.toNat_lt b;show iQ (nJ (b.toNat/16) :: nJ (b.toNat % 16) :: iB l)=_;unfold iQ;rw[zY _ (by omega),zY _ (by omega),jP (by omega),z6 l];rw[show b.toNat/16*16+b.toNat % 16=b.toNat by omega];simp
theorem z7:∀(k:Nat) (s d:Bs),s.length<=k->iQ s=some d->iB d=s:=by
 intro k;induction k with
 | zero=>
  intro s d h e;obtain rfl:=List.length_eq_zero_iff.1 (Nat.le_zero.1 h);unfold iQ at e;cases e
  rfl
 | succ k ih=>
  intro s d h e
  match s with
  | []=>unfold iQ at e;cases e;rfl
  | [_]=>unfold iQ at e;cases e
  | x :: y :: r=>
   unfold iQ at e;split at e
   ·rename_i j;rw[Option.map_eq_some_iff] at e;obtain⟨d',h1,rfl⟩:=e;have:=ih r d' (by simp at h;omega) h1;show nJ ((UInt8.ofNat (gC x*16+gC y)).toNat/16) :: nJ ((UInt8.ofNat (gC x*16+gC y)).toNat % 16) :: iB d'=_;rw[ofNat_toNat (by omega),show(gC x*16+gC y)/16=gC x by omega,show(gC x*16+gC y) % 16=gC y by omega,zZ x j.1,zZ y j.2,this]
   ·cases e
theorem EQ:∀ d,d<16->gC (nJ d)<=15:=by decide
theorem z8(l:Bs)(c:UInt8)(D:gC c=99):c ∉ iB l:=by
 intro j;unfold iB at j;rw[List.mem_flatMap] at j;obtain⟨b,_,hb⟩:=j;have x:=UInt8.toNat_lt b;simp only[jl,j8,or_false] at hb;rcases hb with rfl|rfl
 ·have:=EQ (b.toNat/16) (by omega);omega
 ·have:=EQ (b.toNat % 16) (by omega);omega
theorem VG(l:Bs)(h:l≠[]):iB l≠[]:=by
 cases l with
 | nil=>exact absurd rfl h
 | cons b l=>simp[iB]
end
end Go.Proofs.YtiaigidbcljblaaGreatDoor
