import Derived.Test.YtiaigidbcljblaaGreatDoorMB12
import Derived.Test.YtiaigidbcljblaaGreatDoorMB4
import Derived.Sort.Grow
set_option linter.unusedSimpArgs false
set_option maxRecDepth 100000
set_option maxHeartbeats 40000000
namespace Go.Proofs.YtiaigidbcljblaaGreatDoor
open Go.Proofs.Tryz
section
set_option maxRecDepth 100000
open Go.RowKit
def pA(l:List (Wl×Int)):(Wl->Option Int)×Nat:=l.foldl (λs p=>(rB s.1 p.1 p.2,KS s.1 p.1 s.2)) (λ_=>none,0)
theorem yJ(l:List (Wl×Int))(k:Nat)(h:k<l.length):pA (l.take (k+1))=(rB (pA (l.take k)).1 l[k].1 l[k].2,KS (pA (l.take k)).1 l[k].1 (pA (l.take k)).2):=by
 unfold pA;rw[j6 h,List.foldl_append];rfl
attribute [irreducible] pA
theorem TB(v:Value)(l:List (Wl×Int))(w:Wd)(hs:Sn w 33 v l.length (l.flatMap aN))(R:∀ p∈l,EntOk p)(hl:l.length<=1000):
  Wc 150 #[v] w λe w'=>∃ g b,e = .returned (.pointer (some ⟨g,0,none⟩))/\IX w' g b l.length (pA l).1 (pA l).2/\w.heap.size<=g/\w.heap.size<=b/\Bw w w':=by
 obtain⟨A,cap,rfl,a2,_,_⟩:=id hs;have HS:=jz hs;have I:=jz R;clear hs R;have a0:∀ w:Wd,(Instr.makeMap 292 none).run prog w = .ok (.map (some w.heap.size)) (w.alloc (.map #[] 0)):=λw=>run_makeMap _ w
 go_enter func150,ntmps150
 go_wp2_with fail
 clear a0;go_loopw [11] (λi wr=>∃ k:Nat,k<=l.length/\i = .int .i64 k/\IX wr (w.heap.size+1) w.heap.size k (pA (l.take k)).1 (pA (l.take k)).2/\Bw w wr) (λi _=>l.length-(intOf i).toNat)
 case atStart=>
  refine⟨0,j0 _,rfl,⟨?_,by omega,?_⟩,(by repeat (first|exact ji _ _|assumption|refine bY ?_ _|refine Below.setCell ?_ (by first|exact ja _|assumption|omega|(simp <;> omega)) _|refine Below.alloc ?_ (by first|exact ja _|assumption|omega|(simp <;> omega)) _))⟩
  ·exact(Blk.newAt (w.alloc (.map #[] 0)) 294 #[.map (some w.heap.size)] (w.heap.size+1) (by simp)).cell 0
  ·unfold pA;exact(DM.made w).keep ((ji _ _).alloc (ja _) _)
 case round=>
  obtain⟨k,hk,rfl,V,hb⟩:=hrel;by_cases hlt:k<l.length
  ·obtain⟨b,off,rfl,hr⟩:=SG aN EntOk 33 aZ (HS.below hb) I k hlt;have hr:wr.rangeAt b (off+k*33) (aN l[k]):=hr;have x:=I.out l[k] (List.getElem_mem hlt);have j:=aZ l[k] x;have h1:(aN l[k]).toArray.all (·.oneCell')=true:=iI l[k].1 l[k].2;have D:=jz (yJ l k hlt);have a6:=hb.size;have a1:=V.2.2.lt;have a4:(0:Int)<=k:=by omega
   have a5:(k:Int)<l.length:=by omega
   go_wp2_with (first
    | (refine ld 172 _ rfl rfl rfl hr underlying172 rfl (by rw[j];kernel_rfl) ?_)
    | (refine bZ 172 (.tmp 5) (.tmp 14) rfl rfl rfl rfl (by simp only[js,j];kernel_rfl) (by simp only[js,j] <;> rfl) h1 ?_;intro w2 K J a3;have U:=Blk.range K;rw[jt] at U)
    | (refine ld 172 _ rfl rfl rfl U underlying172 rfl (by rw[j];kernel_rfl) ?_))
   refine(JK _ _ k _ _ l[k].1 l[k].2 w2 (V.keep J) x.dig x.exp (by unfold maxLen;omega)).mono ?_;rintro e w3 ⟨rfl,Z,O⟩;go_wp2_with fail
   refine⟨⟨k+1,by omega,by go_num,?_,(aA hb J).trans (O.below (ja _) (by omega))⟩,by simp[intOf];omega⟩;rw[D.out];exact Z
  ·obtain rfl:k=l.length:=by omega
   rw[List.take_length] at V;go_wp2_with fail
   go_ret;exact⟨_,_,rfl,V,Nat.le_succ _,ja _,hb⟩
end
section
set_option maxRecDepth 100000
open Go.RowKit
def nF(f:Wl->Option Int)(now:Int):Wl->Option Int:=λd=>match f d with|some t=>if t<now then none else some t|none=>none
theorem DM.zero{w:Wd}{b n c:Nat}{f:Wl->Option Int}(h:DM w b n f c)(R:∀ d,DigOk d->f d=none):c=0:=by
 obtain⟨D,I,K⟩:=h;obtain⟨w',hrun,U,Z,r3⟩:=I.range keyed underlying292;rcases U.next keyed 0 with ⟨O,_⟩|⟨key,v,V,y,w'',J,j,x,_⟩
 ·rw[<- K.1];exact O
 ·obtain⟨d,hd,_,rfl⟩:=q9 j;rw[K.has hd,R d hd] at x;cases x
theorem Off.of_turned{w w':Wd}{b:Nat}(h:w.mapTurned w' b):Off b w w':=Off.of_grown h.grown
theorem OS(g b n c:Nat)(f:Wl->Option Int)(now:Int)(w:Wd)(h:IX w g b n f c)(hn:n<=1000):
  Wc 152 #[.pointer (some ⟨g,0,none⟩),.int .i64 now] w λe w'=>∃ k V:Nat,e = .returned (.int .i64 k)/\k+V=c/\IX w' g b n (nF f now) V/\Off b w w':=by
 obtain⟨hg,hgb,hm⟩:=h;have hc:=hm.le;go_enter func152,ntmps152
 go_wp2_with (at_range;refine OR underlying292 rfl _ rfl rfl hm ?_;intro w1 c2 U f6)
 simp only[jq];have a7:Off b w w1:=⟨U.os,U.tape,U.output,U.size,λk hk _=>U.block k hk (by simp)⟩;have f0:=hm.lt;have f1:=dV hg;go_loopw [5] (λm wr=>∃(k V cnt:Nat) (f':Wl->Option Int) (left:Wl->Bool),m = .int .i64 k/\k+V=c/\DR wr b w.heap.size n f' V left cnt/\Off b w wr/\Hid (∀ d,DigOk d->f' d=if left d then f d else nF f now d)) (λ_ wr=>wr.rangeLeft b w.heap.size)
 case atStart=>exact⟨0,c,c,f,_,rfl,by omega,c2,a7,jz (λd _=>by
  cases h:f d <;> simp[h,nF])⟩
 case round=>
  obtain⟨k,V,cnt,f',left,rfl,hk,hR,D,HF⟩:=hrel;have d7:wr.cell? ⟨g,0,none⟩=some (.map (some b)):=D.cell hg hgb;have a3:=jz hR.left_eq;have f4:=D.size;go_wp2_with (at_next;refine VX rfl _ rfl rfl hR ?_ ?_)
  ·intro h0 c6;go_wp2_with fail
   go_ret;refine⟨k,V,rfl,hk,⟨d7,hgb,hR.owns.congr λd hd=>?_⟩,D⟩;rw[HF.out d hd,jQ (by rw[c6 d hd];simp)]
  ·intro d t w2 a2 hd f7 hl a6 Z K a0 c9 d5;have h1:=dI d;have O:(u8s d).length=32:=by simp[u8s,hd.len]
   have a4:f d=some t:=by
    have:=HF.out d hd;rw[jP hl] at this;rw[<- this];exact a6
   have I:Off b w w2:=⟨a0.os.trans D.os,a0.tape.trans D.tape,a0.output.trans D.output,by omega,λi hi e0=>(a0.block i (by omega) (λe=>by injection e with e;omega)).trans (D.block i hi e0)⟩;have c7:w2.cell? ⟨g,0,none⟩=some (.map (some b)):=I.cell hg hgb;have b0:=jz a6;have a1:=jz a4;have b1:=jz K;have f5:=jz c9;clear hR c2 a6 a4 K c9;rcases jb (decide (t<now)) with t1|t1
   ·go_wp2_with (refine bZ 26 (.tmp 6) (.tmp 18) rfl rfl rfl rfl (by simp only[js,O];kernel_rfl) (by simp only[js,O] <;> rfl) h1 ?_;intro w3 R J e8)
    have f2:=j9 J c7;have d1:=Z.keep J;have a8:=I.trans (Off.of_below J);have a5:=Blk.range R;rw[jt] at a5;have d0:w2.heap.size≠b:=by have:=I.size;omega
    have f8:=underlying26;have f9:(prog.info? 26).map (·.size)=some (u8s d).length:=by rw[O];kernel_rfl
    have c3:DR w3.drew b w.heap.size n f' V (λx=>left x && !(x == d)) a2:=d1.of_blocks rfl rfl;have e1:IntKind.i64.wrap ((k:Int)+1)=(k:Int)+1:=IntWalk.i64_in _ (by omega);clear Z R d5
    go_region_held3 (λw'=>w'.cell? ⟨g,0,none⟩=some (.map (some b))/\w'.rangeAt w2.heap.size 0 (u8s d))
     (first
      | (refine⟨by assumption,by assumption⟩)
      | (go_split_ands;exact⟨by assumption,by assumption⟩)
      | (go_split_ands;exact⟨(Off.of_turned hturn).cell (by assumption) hgb,λj u hj=>(Off.of_turned hturn).cell (show w3.drew.cell? ⟨w2.heap.size,0+j,none⟩=some u from a5 j u hj) d0⟩)
      | go_keep)
     ((refine S6 underlying292 _ _ rfl rfl rfl c3 hd rfl ?_;intro w4 c4 b7 c5 d2 f3 hturn))
    go_wp2_with fail
    have a9:=a8.trans (show Off b w3 w4 from(show Off b w3 w3.drew from⟨rfl,rfl,rfl,ja _,λ_ _ _=>rfl⟩).trans (Off.of_turned hturn));rw[b0.out,Option.isSome_some,jP rfl] at d2;refine⟨⟨k+1,c4,b7,cut f' d,_,by go_num,by omega,c5,a9,jz λx hx=>?_⟩,?_⟩
    ·by_cases hxd:x=d
     ·subst hxd;have K:=of_decide_eq_true t1;simp[cut,nF,a1.out,K]
     ·simp only[cut,jQ hxd];rw[HF.out x hx];simp[hxd]
    ·rw[a3.out,c5.left_eq];have:=b1.out;omega
   ·go_wp2_with (refine bZ 26 (.tmp 6) (.tmp 18) rfl rfl rfl rfl (by simp only[js,O];kernel_rfl) (by simp only[js,O] <;> rfl) h1 ?_;intro w3 R J e8)
    refine⟨⟨k,V,a2,f',_,rfl,hk,Z.keep J,I.trans (Off.of_below J),jz λx hx=>?_⟩,?_⟩
    ·by_cases hxd:x=d
     ·subst hxd;have K:=of_decide_eq_false t1;simp[nF,b0.out,a1.out,K]
     ·rw[HF.out x hx];simp[hxd]
    ·rw[a3.out,(Z.keep J).left_eq];exact b1.out
end
section
set_option maxRecDepth 100000
theorem OT(x y:Int):mS y x = -mS x y:=by
 unfold mS;split <;> split <;> omega
theorem kD(x y:Int):mS x y = -1/\x<y\/mS x y=0/\x=y\/mS x y=1/\y<x:=by
 unfold mS;split
 ·exact .inl ⟨rfl,by assumption⟩
 ·split
  ·exact .inr (.inr ⟨rfl,by assumption⟩)
  ·exact .inr (.inl ⟨rfl,by omega⟩)
theorem C7:∀ x y:Wl,jD y x = -jD x y
 | [],[]=>rfl
 | [],_ :: _=>rfl
 | _ :: _,[]=>rfl
 | a :: x,b :: y=>by
  have ih:=C7 x y;simp only[jD];split
  ·rw[jQ (by omega)]
  ·split
   ·rfl
   ·exact ih
theorem yK:∀ x y:Wl,jD x y=0->x=y
 | [],[],_=>rfl
 | [],_ :: _,h=>by simp[jD] at h
 | _ :: _,[],h=>by simp[jD] at h
 | a :: x,b :: y,h=>by
  simp only[jD] at h;split at h
  ·omega
  ·split at h
   ·omega
   ·rw[yK x y h,show a=b by omega]
theorem yL:∀ x:Wl,jD x x=0
 | []=>rfl
 | a :: x=>by
  simp only[jD];rw[jQ (by omega),jQ (by omega)];exact yL x
theorem vA:∀ x y z:Wl,jD x y<=0->jD y z<=0->jD x z<=0
 | [],[],[],_,_=>by simp[jD]
 | [],_ :: _,[],_,_=>by simp[jD]
 | [],_,_ :: _,_,_=>by simp[jD]
 | _ :: _,[],_,h,_=>by simp[jD] at h
 | _ :: _,_ :: _,[],_,h=>by simp[jD] at h
 | a :: x,b :: y,c :: z,h,h'=>by
  have ih:=vA x y z;simp only[jD] at h h' ⊢;split at h
  ·split at h'
   ·rw[jP (by omega)];omega
   ·split at h'
    ·omega
    ·rw[jP (by omega)];omega
  ·split at h
   ·omega
   ·split at h'
    ·rw[jP (by omega)];omega
    ·split at h'
     ·omega
     ·rw[jQ (by omega),jQ (by omega)];exact ih h h'
theorem dL(p q:Wl×Int):dK q p = -dK p q:=by
 unfold dK;rw[OT p.2 q.2];have:=kD p.2 q.2;by_cases h:mS p.2 q.2=0
 ·rw[h,jQ (by simp),jQ (by simp)];exact C7 _ _
 ·rw[jP (by omega),jP h]
theorem fT(p q:Wl×Int):dK p q=0 ↔ p=q:=by
 constructor
 ·intro h;unfold dK at h;rcases kD p.2 q.2 with ⟨e,_⟩|⟨e,j⟩|⟨e,_⟩
  ·rw[e] at h;simp at h
  ·rw[e,jQ (by simp)] at h;exact Prod.ext (yK _ _ h) j
  ·rw[e] at h;simp at h
 ·rintro rfl;unfold dK;have:mS p.2 p.2=0:=by unfold mS;simp
  rw[this,jQ (by simp)];exact yL _
theorem mD(p q r:Wl×Int)(h:dK p q<=0)(j:dK q r<=0):dK p r<=0:=by
 unfold dK at h j ⊢;have t:=vA p.1 q.1 r.1;have c1:=kD p.2 q.2;have x:=kD q.2 r.2;have D:=kD p.2 r.2;split at h <;> split at j <;> split <;> omega
set_option maxRecDepth 100000
theorem OU(l:List (Wl×Int)):pA l=l.foldl (λs p=>(rB s.1 p.1 p.2,KS s.1 p.1 s.2)) (λ_=>none,0):=by unfold pA;rfl
theorem oU:∀(L M:List (Wl×Int)),L.Pairwise (λp q=>dK p q<0)->M.Pairwise (λp q=>dK p q<0)->(∀ p,p∈L ↔ p∈M)->L=M
 | [],[],_,_,_=>rfl
 | [],q :: M,_,_,h=>by have:=(h q).2 (by simp);simp at this
 | p :: L,[],_,_,h=>by have:=(h p).1 (by simp);simp at this
 | p :: L,q :: M,hL,hM,h=>by
  rw[List.pairwise_cons] at hL hM;have D:p=q:=by
   have h1:=(h p).1 (by simp);have j:=(h q).2 (by simp);rw[jl] at h1 j;rcases h1 with h1|h1
   ·exact h1
   ·rcases j with j|j
    ·exact j.symm
    ·have J:=hM.1 p h1;have K:=hL.1 q j;have:=dL p q;omega
  subst D;have I:dK p p=0:=(fT p p).2 rfl;rw[oU L M hL.2 hM.2 λr=>?_];constructor
  ·intro x;have h1:=(h r).1 (by simp[x]);rw[jl] at h1;rcases h1 with rfl|h1
   ·have:=hL.1 _ x;omega
   ·exact h1
  ·intro x;have h1:=(h r).2 (by simp[x]);rw[jl] at h1;rcases h1 with rfl|h1
   ·have:=hM.1 _ x;omega
   ·exact h1
set_option maxRecDepth 100000
open Go.RowKit
theorem DM.dropped{w:Wd}{b n c:Nat}{f:Wl->Option Int}(h:DM w b n f c){d:Wl}(hd:DigOk d):∃ w' x,DM w' b n (cut f d) x/\x+(if (f d).isSome then 1 else 0)=c:=by
 obtain⟨D,j,K⟩:=h;obtain⟨w',_,J,_⟩:=j.drop keyed underlying292 (jZ hd) 0;obtain⟨x,I,e⟩:=K.del (j.tidy keyed) hd;exact⟨w',x,⟨_,J,I⟩,e⟩
theorem DM.count(b n:Nat):∀(K:List Wl) (w:Wd) (f:Wl->Option Int) (c:Nat),DM w b n f c->(∀ d∈K,DigOk d)->K.Nodup->(∀ d,DigOk d->((f d).isSome=true ↔ d∈K))->c=K.length
 | [],w,f,c,h,_,_,hf=>h.zero λd hd=>by
  cases h1:f d with
  | none=>rfl
  | some t=>
   have:=(hf d hd).1 (by rw[h1];rfl);simp at this
 | d :: K,w,f,c,h,hok,hnd,hf=>by
  rw[List.nodup_cons] at hnd;have hd:=hok d (by simp);obtain⟨w',D,I,e⟩:=h.dropped hd;rw[jP ((hf d hd).2 (by simp))] at e;have:=DM.count b n K w' (cut f d) D I (λx j=>hok x (by simp[j])) hnd.2 (λx j=>by
   unfold cut
   by_cases hxd:x=d
   ·subst hxd
    simp[hnd.1]
   ·rw[jQ hxd,hf x j]
    simp[hxd])
  simp only[List.length_cons];omega
structure Lists(f:Wl->Option Int)(L:List (Wl×Int)):Prop where
 mem:∀ p:Wl×Int,p∈L ↔ EntOk p/\f p.1=some p.2
 sorted:L.Pairwise (λp q=>dK p q<0)
 exp:∀ d t,DigOk d->f d=some t->aD t
theorem vB{f:Wl->Option Int}{now:Int}{d:Wl}{t:Int}(h:nF f now d=some t):f d=some t:=by
 unfold nF at h;cases hf:f d with
 | none=>rw[hf] at h;cases h
 | some s=>
  rw[hf] at h;simp only at h;split at h
  ·cases h
  ·exact h
theorem Lists.nodup{f:Wl->Option Int}{L:List (Wl×Int)}(h:Lists f L):(L.map (·.1)).Nodup:=by
 rw[List.nodup_iff_pairwise_ne,List.pairwise_map];have hs:L.Pairwise (λp q=>p≠q):=h.sorted.imp λ{p q} I e=>by
  subst e;have:=(fT p p).2 rfl;omega
 refine List.Pairwise.imp_of_mem (λ{p q} D J j e=>?_) hs;have h1:=((h.mem p).1 D).2;have x:=((h.mem q).1 J).2;rw[e,x] at h1;injection h1 with h1
 exact j (Prod.ext e h1.symm)
theorem Lists.count{f:Wl->Option Int}{L:List (Wl×Int)}(h:Lists f L){w:Wd}{b n c:Nat}(x:DM w b n f c):c=L.length:=by
 have:=DM.count b n (L.map (·.1)) w f c x (λd hd=>by
  obtain⟨p,j,rfl⟩:=List.mem_map.1 hd
  exact((h.mem p).1 j).1.dig) h.nodup (λd hd=>by
  constructor
  ·intro hs
   obtain⟨t,ht⟩:=Option.isSome_iff_exists.1 hs
   exact List.mem_map.2 ⟨(d,t),(h.mem _).2 ⟨⟨hd,x.i64 hd ht⟩,ht⟩,rfl⟩
  ·intro hs
   obtain⟨p,j,rfl⟩:=List.mem_map.1 hs
   rw[((h.mem p).1 j).2]
   rfl)
 rw[this,List.length_map]
theorem Lists.eq{f:Wl->Option Int}{L M:List (Wl×Int)}(h:Lists f L)(j:Lists f M):L=M:=
 oU L M h.sorted j.sorted λp=>by rw[h.mem,j.mem]
def bS(l:List (Wl×Int))(now:Int):List (Wl×Int):=l.filter λp=>decide (now<=p.2)
theorem Lists.live{f:Wl->Option Int}{L:List (Wl×Int)}(h:Lists f L)(now:Int):Lists (nF f now) (bS L now) where
 mem p:=by
  unfold bS;rw[List.mem_filter,h.mem p];unfold nF;simp only[decide_eq_true_eq];cases hf:f p.1 with
  | none=>simp
  | some t=>
   simp only[Option.some.injEq];constructor
   ·rintro⟨⟨h1,h2⟩,h3⟩;subst h2;exact⟨h1,by rw[jQ (by omega)]⟩
   ·rintro⟨h1,h2⟩;by_cases ht:t<now
    ·rw[jP ht] at h2;cases h2
    ·rw[jQ ht] at h2;injection h2 with h2
     exact⟨⟨h1,h2⟩,by omega⟩
 sorted:=h.sorted.sublist List.filter_sublist
 exp d t hd ht:=h.exp d t hd (vB ht)
theorem Lists.of_live{f:Wl->Option Int}{now:Int}{L:List (Wl×Int)}(h:∀ p:Wl×Int,p∈L ↔ EntOk p/\f p.1=some p.2/\now<=p.2)(hs:L.Pairwise (λp q=>dK p q<0))(hi:∀ d t,DigOk d->f d=some t->aD t):Lists (nF f now) L where
 mem p:=by
  rw[h p];unfold nF;cases hf:f p.1 with
  | none=>simp
  | some t=>
   simp only[Option.some.injEq];constructor
   ·rintro⟨h1,h2,h3⟩;subst h2;exact⟨h1,by rw[jQ (by omega)]⟩
   ·rintro⟨h1,h2⟩;by_cases ht:t<now
    ·rw[jP ht] at h2;cases h2
    ·rw[jQ ht] at h2;injection h2 with h2
     exact⟨h1,h2,by omega⟩
 sorted:=hs
 exp d t hd ht:=hi d t hd (vB ht)
theorem Lists.congr{f g:Wl->Option Int}{L:List (Wl×Int)}(h:Lists f L)(e:∀ d,DigOk d->f d=g d):Lists g L where
 mem p:=by
  rw[h.mem p];constructor
  ·rintro⟨h1,h2⟩;exact⟨h1,by rw[<- e _ h1.dig];exact h2⟩
  ·rintro⟨h1,h2⟩;exact⟨h1,by rw[e _ h1.dig];exact h2⟩
 sorted:=h.sorted
 exp d t hd ht:=h.exp d t hd (by rw[e d hd];exact ht)
end
section
set_option maxRecDepth 100000
def eG(e:Wl×Int)(s:List (Wl×Int)×Bool)(q:Wl×Int):List (Wl×Int)×Bool:=
 let s':=if !s.2 && decide (dK e q<0) then (s.1++[e],true) else s
 (if decide (q.1=e.1) then s'.1 else s'.1++[q],s'.2)
def nG(e q:Wl×Int):Bool:=decide (q.1=e.1) && decide (e.2<=q.2)
def xP(L:List (Wl×Int))(e:Wl×Int):List (Wl×Int)×Bool:=L.foldl (eG e) ([],false)
def eZ(L:List (Wl×Int))(e:Wl×Int):List (Wl×Int)×Bool:=
 if L.any (nG e) then (L,false) else (if (xP L e).2 then (xP L e).1 else (xP L e).1++[e],true)
theorem OV(L:List (Wl×Int))(e:Wl×Int):(xP L e).1.length<=L.length+1/\((xP L e).2=false->(xP L e).1.length<=L.length):=by
 unfold xP;have key:∀(L:List (Wl×Int)) (s:List (Wl×Int)×Bool) (n:Nat),s.1.length<=n+1->(s.2=false->s.1.length<=n)->(L.foldl (eG e) s).1.length<=n+L.length+1/\((L.foldl (eG e) s).2=false->(L.foldl (eG e) s).1.length<=n+L.length):=by
  intro L;induction L with
  | nil=>intro s n h j;exact⟨by simpa using h,by simpa using j⟩
  | cons q L ih=>
   intro s n h j;rw[List.foldl_cons];have:=ih (eG e s q) (n+1) (by
    obtain⟨o,p⟩:=s
    unfold eG
    cases p <;> (simp only[Bool.not_true,Bool.not_false,Bool.false_and,Bool.true_and] at *;repeat' split) <;> simp at * <;> omega) (by
    obtain⟨o,p⟩:=s
    unfold eG
    cases p <;> (simp only[Bool.not_true,Bool.not_false,Bool.false_and,Bool.true_and] at *;repeat' split) <;> simp at * <;> omega)
   simp only[List.length_cons];exact⟨by omega,λx=>by have:=this.2 x;omega⟩
 have:=key L ([],false) 0 (by simp) (by simp);simpa using this
theorem FV(L:List (Wl×Int))(e:Wl×Int):(eZ L e).1.length<=L.length+1:=by
 have:=OV L e;unfold eZ;split
 ·simp
 ·split
  ·exact this.1
  ·rename_i h;have:=this.2 (by simpa using h);simp;omega
theorem xQ{p q r:Wl×Int}(h:dK p q<0)(D:dK q r<0):dK p r<0:=by
 have I:=mD p q r (by omega) (by omega);have x:dK p r≠0:=λe=>by
  have j:=(fT _ _).1 e;subst j;have:=dL p q;omega
 omega
theorem AI(e:Wl×Int):∀(rest out:List (Wl×Int)) (placed:Bool),rest.Pairwise (λp q=>dK p q<0)->out.Pairwise (λp q=>dK p q<0)->(∀ x∈out,∀ y∈rest,dK x y<0)->(placed=false->∀ x∈out,dK x e<0) ->
  (∀ q∈rest,q.1=e.1->q.2<e.2)->(placed=true->∀ q∈rest,dK e q<0) ->
  let s:=rest.foldl (eG e) (out,placed)
  let r:=if s.2 then s.1 else s.1++[e]
  r.Pairwise (λp q=>dK p q<0)/\∀ x,x∈r ↔ x∈out\/(placed=false/\x=e)\/(x∈rest/\x.1≠e.1)
 | [],out,placed,_,ho,_,hp,_,_=>by
  cases placed with
  | true=>simpa using ho
  | false=>
   simp only[List.foldl_nil,Bool.false_eq_true,if_false];refine⟨List.pairwise_append.2 ⟨ho,by simp,λx j y hy=>?_⟩,λx=>by simp⟩;obtain rfl:y=e:=by simpa using hy
   exact hp rfl x j
 | q :: rest,out,placed,hr,ho,hor,hp,hb,hpl=>by
  rw[List.foldl_cons];rw[List.pairwise_cons] at hr;have R:q.1=e.1->dK q e<0:=λhd=>by
   have:=hb q (by simp) hd;unfold dK mS;simp[this]
  -- the state behind q
  by_cases hplace:placed=false/\dK e q<0
  ·obtain⟨rfl,J⟩:=hplace;have K:¬q.1=e.1:=λhd=>by
    have h1:=R hd;have:=dL q e;omega
   have D:eG e (out,false) q=(out++[e]++[q],true):=by
    unfold eG;simp[J,K]
   rw[D];have I:∀ y∈rest,dK e y<0:=λy hy=>xQ J (hr.1 y hy)
   have:=AI e rest (out++[e]++[q]) true hr.2 (by
     refine List.pairwise_append.2 ⟨List.pairwise_append.2 ⟨ho,by simp,λx j y hy=>?_⟩,by simp,λx j y hy=>?_⟩
     ·obtain rfl:y=e:=by simpa using hy
      exact hp rfl x j
     ·obtain rfl:y=q:=by simpa using hy
      rcases List.mem_append.1 j with j|j
      ·exact hor x j y (by simp)
      ·obtain rfl:x=e:=by simpa using j
       exact J) (λx j y hy=>by
     rcases List.mem_append.1 j with j|j
     ·rcases List.mem_append.1 j with j|j
      ·exact hor x j y (by simp[hy])
      ·obtain rfl:x=e:=by simpa using j
       exact I y hy
     ·obtain rfl:x=q:=by simpa using j
      exact hr.1 y hy) (λh=>by simp at h) (λx j=>hb x (by simp[j])) (λ_=>I)
   refine⟨this.1,λx=>(this.2 x).trans ?_⟩;simp only[ju,jl,j8,or_false,Bool.true_eq_false,false_and,false_or,true_and];constructor
   ·rintro(((h|h)|h)|⟨h,h'⟩)
    ·exact .inl h
    ·exact .inr (.inl h)
    ·subst h;exact .inr (.inr ⟨.inl rfl,K⟩)
    ·exact .inr (.inr ⟨.inr h,h'⟩)
   ·rintro(h|h|⟨h|h,h'⟩)
    ·exact .inl (.inl (.inl h))
    ·exact .inl (.inl (.inr h))
    ·exact .inl (.inr h)
    ·exact .inr ⟨h,h'⟩
  ·have O:((!placed) && decide (dK e q<0))=false:=by
    cases placed <;> simp at hplace ⊢
    exact hplace
   have U:placed=false->q.1≠e.1->dK q e<0:=λh1 V=>by
    have Z:¬dK e q<0:=λh=>hplace ⟨h1,h⟩
    have h4:=dL q e;have h5:dK q e≠0:=λh=>V (by rw[(fT q e).1 h])
    omega
   by_cases hd:q.1=e.1
   ·have D:eG e (out,placed) q=(out,placed):=by
     unfold eG;simp[O,hd]
    rw[D];have:=AI e rest out placed hr.2 ho (λx j y hy=>hor x j y (by simp[hy])) hp (λx j=>hb x (by simp[j])) (λh y hy=>hpl h y (by simp[hy]));refine⟨this.1,λx=>(this.2 x).trans ?_⟩;rw[jl];constructor
    ·rintro(h|h|⟨h,h'⟩)
     ·exact .inl h
     ·exact .inr (.inl h)
     ·exact .inr (.inr ⟨.inr h,h'⟩)
    ·rintro(h|h|⟨h|h,h'⟩)
     ·exact .inl h
     ·exact .inr (.inl h)
     ·subst h;exact absurd hd h'
     ·exact .inr (.inr ⟨h,h'⟩)
   ·have D:eG e (out,placed) q=(out++[q],placed):=by
     unfold eG;simp[O,hd]
    rw[D];have:=AI e rest (out++[q]) placed hr.2 (by
      refine List.pairwise_append.2 ⟨ho,by simp,λx j y hy=>?_⟩
      obtain rfl:y=q:=by simpa using hy
      exact hor x j y (by simp)) (λx j y hy=>by
      rcases List.mem_append.1 j with j|j
      ·exact hor x j y (by simp[hy])
      ·obtain rfl:x=q:=by simpa using j
       exact hr.1 y hy) (λh x j=>by
      rcases List.mem_append.1 j with j|j
      ·exact hp h x j
      ·obtain rfl:x=q:=by simpa using j
       exact U h hd) (λx j=>hb x (by simp[j])) (λh y hy=>hpl h y (by simp[hy]))
    refine⟨this.1,λx=>(this.2 x).trans ?_⟩;simp only[ju,jl,j8,or_false];constructor
    ·rintro((h|h)|h|⟨h,h'⟩)
     ·exact .inl h
     ·subst h;exact .inr (.inr ⟨.inl rfl,hd⟩)
     ·exact .inr (.inl h)
     ·exact .inr (.inr ⟨.inr h,h'⟩)
    ·rintro(h|h|⟨h|h,h'⟩)
     ·exact .inl (.inl h)
     ·exact .inr (.inl h)
     ·exact .inl (.inr h)
     ·exact .inr (.inr ⟨h,h'⟩)
theorem rC{f:Wl->Option Int}{L:List (Wl×Int)}{e:Wl×Int}(h:Lists f L)(J:EntOk e):Lists (rB f e.1 e.2) (eZ L e).1/\(eZ L e).2 = !old? f e.1 e.2:=by
 have x:L.any (nG e)=old? f e.1 e.2:=by
  cases h1:f e.1 with
  | none=>
   have:old? f e.1 e.2=false:=by unfold old?;simp[h1]
   rw[this,List.any_eq_false];intro q I j;unfold nG at j;simp only[Bool.and_eq_true,decide_eq_true_eq] at j;have:=((h.mem q).1 I).2;rw[j.1,h1] at this;cases this
  | some t=>
   unfold old?;rw[h1];simp only[Option.isSome_some,Bool.true_and,Option.getD_some];rw[Bool.eq_iff_iff,List.any_eq_true,decide_eq_true_eq];constructor
   ·rintro⟨q,I,j⟩;unfold nG at j;simp only[Bool.and_eq_true,decide_eq_true_eq] at j;have:=((h.mem q).1 I).2;rw[j.1,h1] at this;injection this with this
    omega
   ·intro O;exact⟨(e.1,t),(h.mem _).2 ⟨⟨J.dig,h.exp _ _ J.dig h1⟩,h1⟩,by simp[nG,O]⟩
 rcases jb (old? f e.1 e.2) with D|D
 ·have K:eZ L e=(L,false):=by unfold eZ;rw[x,D];rfl
  have e2:rB f e.1 e.2=f:=by unfold rB;rw[jP D]
  rw[K,e2,D];exact⟨h,rfl⟩
 ·have K:eZ L e=(if (xP L e).2 then (xP L e).1 else (xP L e).1++[e],true):=by unfold eZ;rw[x,D];rfl
  have e2:rB f e.1 e.2=upd f e.1 e.2:=by unfold rB;rw[D];rfl
  rw[K,e2,D];refine⟨?_,rfl⟩;have hb:∀ q∈L,q.1=e.1->q.2<e.2:=λq I hd=>by
   have h1:=List.any_eq_false.1 (x.trans D) q I;unfold nG at h1;simp only[Bool.and_eq_true,decide_eq_true_eq,not_and] at h1;have:=h1 hd;omega
  have key:=AI e L [] false h.sorted (by simp) (by simp) (by simp) hb (by simp);refine⟨λp=>?_,key.1,λd t hd ht=>?_⟩
  ·refine(key.2 p).trans ?_;rw[h.mem p];unfold upd;by_cases hp:p.1=e.1
   ·rw[jP hp];constructor
    ·rintro(h1|⟨_,h1⟩|⟨_,h1⟩)
     ·simp at h1
     ·subst h1;exact⟨J,rfl⟩
     ·exact absurd hp h1
    ·rintro⟨_,h1⟩;injection h1 with h1
     exact .inr (.inl ⟨rfl,Prod.ext hp h1.symm⟩)
   ·rw[jQ hp];constructor
    ·rintro(h1|⟨_,h1⟩|⟨h1,_⟩)
     ·simp at h1
     ·subst h1;exact absurd rfl hp
     ·exact h1
    ·intro h1;exact .inr (.inr ⟨h1,hp⟩)
  ·unfold upd at ht;split at ht
   ·injection ht with ht
    subst ht;exact J.exp
   ·exact h.exp d t hd ht
theorem Lists.nil:Lists (λ_=>none) []:=⟨λp=>by simp,List.Pairwise.nil,λd t _ h=>by cases h⟩
def fZ(l:List (Wl×Int)):List (Wl×Int):=l.foldl (λo e=>(eZ o e).1) []
theorem FW(l:List (Wl×Int))(k:Nat)(h:k<l.length):fZ (l.take (k+1))=(eZ (fZ (l.take k)) l[k]).1:=by
 unfold fZ;rw[j6 h,List.foldl_append];rfl
theorem C8:∀ l:List (Wl×Int),(∀ p∈l,EntOk p)->Lists (pA l).1 (fZ l):=by
 intro l x;have key:∀ k,k<=l.length->Lists (pA (l.take k)).1 (fZ (l.take k))/\(fZ (l.take k)).length<=k:=by
  intro k;induction k with
  | zero=>
   intro _;rw[OU];exact⟨Lists.nil,ja _⟩
  | succ k ih=>
   intro I;have j:k<l.length:=by omega
   obtain⟨h1,D⟩:=ih (by omega);rw[yJ l k j,FW l k j];have:=FV (fZ (l.take k)) l[k];exact⟨(rC h1 (x _ (List.getElem_mem j))).1,by omega⟩
 have:=(key l.length (ja _)).1
 rwa [List.take_length] at this
end
section
open Go.RowKit
section
variable {P : Program} {w : Wd}
end
end
section
set_option maxRecDepth 100000
set_option maxRecDepth 100000
open Go.RowKit
theorem YF:SlT prog 52 172 33 40:=SlT.mk' underlying52 (z:=.agg (cR (List.replicate 32 0) 0).toArray) (by kernel_rfl) rfl (by decide)
end
section
open Go.RowKit
section
variable {P : Program} {ops : Array Oper} {Q : Exit -> Act -> Wd -> Prop} {S : Wd -> Prop} {a : Act} {w : Wd} {listed : Array Bool} {fuel : Nat}
theorem rF{x:List Nat}(i:Nat)(dst:Option Tmp){o:Oper}{f:FuncId}{args:Wa}(h:Calls P f args w λe w'=>∃ v,e = .returned v/\S w'/\(S w'->wpAnyH P .any ops Q S fuel (listed.setIfInBounds i true) (a.put dst v) w'))
  (hs:AllReadyH P .any ops Q S fuel listed a w x) (J:ops[i]? = some o:=by rfl) (j:o.dst=dst:=by rfl) (O:Region.wanted o (yielded ops a.tmps)=true:=by kernel_rfl)
  (hent:(execOp a.eval o).run P w = .ok (.enter f args) w:=by unfold execOp;go_simp):AllReadyH P .any ops Q S fuel listed a w (i :: x):=by
 subst j;refine AllReadyH.cons J (λK D=>?_) hs;rw[jP O];unfold Oper.wp;rw[hent,Oper.upon_enter];refine h.mono ?_;rintro e w' ⟨v,rfl,hS,I⟩;exact D _ _ hS I
theorem rA{D:List Nat}(i:Nat)(dst:Option Tmp)(zs:Wa){ty:TypeId}(R:∀ w,(zeroValue ty).run P w = .ok (.agg zs) w)(hS:S (w.alloc (.cells zs ty)))
  (h:wpAnyH P .any ops Q S fuel (listed.setIfInBounds i true) (a.put dst (.pointer (some ⟨w.heap.size,0,none⟩))) (w.alloc (.cells zs ty)))
  (hs:AllReadyH P .any ops Q S fuel listed a w D) {o:Oper} (J:ops[i]? = some o:=by rfl) (j:o.dst=dst:=by rfl) (x:o.op = .alloc ty:=by rfl) (O:Region.wanted o (yielded ops a.tmps)=true:=by kernel_rfl):AllReadyH P .any ops Q S fuel listed a w (i :: D):=by
 subst j;refine AllReadyH.cons J (λK I=>?_) hs;rw[jP O];unfold Oper.wp;have:(execOp a.eval o).run P w = .ok (.value (.pointer (some ⟨w.heap.size,0,none⟩))) (w.alloc (.cells zs ty)):=by
  unfold execOp;simp only[x];unfold Instr.alloc newVar newRow;simp[Sem.run_bind,R,Value.cells]
 rw[this,Oper.upon_value];exact I _ _ hS (λ_=>h)
end
end
section
set_option maxRecDepth 100000
open Go.RowKit
theorem C9{w:Wd}{g:Nat}{T:TypeId}{p:Wl×Int}(h:Blk w g T (aN p).toArray)(J:EntOk p):w.rangeAt g 0 (u8s p.1)/\w.cell? ⟨g,32,none⟩=some (.int .i64 p.2):=by
 have x:(u8s p.1).length=32:=by simp[u8s,J.dig.len]
 constructor
 ·intro j u I;rw[Nat.zero_add,h.cell j];have D:=(List.getElem?_eq_some_iff.1 I).1;simp only[jf,aN,cR];rw[jy D];exact I
 ·rw[h.cell 32];simp only[jf,aN,cR];rw[jx (by omega),x];rfl
theorem OW{P:Program}{f:FuncId}{args:Wa}{Q:Ending->Wd->Prop}(w':Wd)(h:∀ j,j=w'->Calls P f args j Q):Calls P f args w' Q:=h _ rfl
theorem AJ(p q:Wl×Int)(w:Wd)(Z:EntOk p)(hq:EntOk q):
  Wc 179 #[.agg (aN p).toArray,.agg (aN q).toArray] w λe w'=>e = .returned (.int .i64 (dK p q))/\∃(n:Nat) (os:Array Obj),w'=Sort.grow (w.drewN n) os:=by
 have K:Bw w ((w.alloc (.cells (aN p).toArray 172)).alloc (.cells (aN q).toArray 172)):=(by repeat (first|exact ji _ _|assumption|refine bY ?_ _|refine Below.setCell ?_ (by first|exact ja _|assumption|omega|(simp <;> omega)) _|refine Below.alloc ?_ (by first|exact ja _|assumption|omega|(simp <;> omega)) _));have I:=(Blk.new w 172 (aN p).toArray).alloc (.cells (aN q).toArray 172);have J:=Blk.newAt (w.alloc (.cells (aN p).toArray 172)) 172 (aN q).toArray (w.heap.size+1) (by simp);obtain⟨O,U⟩:=C9 I Z;obtain⟨R,V⟩:=C9 J hq;have l1:=aZ p Z;have l2:=aZ q hq;go_enter func179,ntmps179
 have x:=jz O;have D:=jz R;clear I J O R;rcases jb (mS p.2 q.2 == 0) with t1|t1
 all_goals
  go_wp2_with fail
  refine OW ((w.alloc (.cells (aN p).toArray 172)).alloc (.cells (aN q).toArray 172)) (λw1 j=>?_);rw[<- j] at K x D;have HW:Hid (w1=Sort.grow (w.drewN 0) #[.cells (aN p).toArray 172,.cells (aN q).toArray 172]):=jz (by rw[j,Sort.alloc_eq_grow,Sort.alloc_eq_grow,Sort.grow_grow];rfl);clear j U V;refine(C6 p.2 q.2 w1).mono ?_;rintro e w2 ⟨rfl,rfl⟩;go_wp2_with fail
 ·go_region_held3 (λw'=>w'.rangeAt w.heap.size 0 (u8s p.1)/\w'.rangeAt (w.heap.size+1) 0 (u8s q.1)/\Bw w w')
   (first
    | (refine⟨x,D,K.drew⟩)
    | (go_split_ands;exact⟨by assumption,by assumption,by assumption⟩))
   ((go_at_call 235;refine(xO _ _ _ _ p.1 q.1 _ Z.dig hq.dig (by go_split_ands;assumption) (by go_split_ands;assumption)).mono ?_;rintro e wX ⟨rfl,rfl⟩))
  all_goals
   go_wp2_with fail
   go_ret;have u1:mS p.2 q.2=0:=by simpa using t1
   refine⟨?_,1,_,by rw[HW.out];rfl⟩;unfold dK;rw[jQ (by rw[u1];simp)];rfl
 ·go_ret;have u1:mS p.2 q.2≠0:=by simpa using t1
  refine⟨?_,0,_,HW⟩;unfold dK;rw[jP u1];rfl
end
section
set_option maxRecDepth 100000
open Go.RowKit
attribute [local irreducible] wpQuiet
theorem yM{w:Wd}{b off:Nat}{p:Wl×Int}(J:w.rangeAt b off (aN p))(K:EntOk p):w.rangeAt b off (u8s p.1)/\w.cell? ⟨b,off+32,none⟩=some (.int .i64 p.2):=by
 have x:(u8s p.1).length=32:=by simp[u8s,K.dig.len]
 constructor
 ·intro j u I;refine J j u ?_;have D:=(List.getElem?_eq_some_iff.1 I).1;simp only[aN,cR];rw[jy D];exact I
 ·refine J 32 _ ?_;simp only[aN,cR];rw[jx (by omega),x];rfl
end
section
set_option maxRecDepth 100000
open Go.RowKit
attribute [local irreducible] wpQuiet wpAnyH
end
end Go.Proofs.YtiaigidbcljblaaGreatDoor
