import Derived.Test.YtiaigidbcljblaaGreatDoorMS12
import Derived.Test.YtiaigidbcljblaaGreatDoorMS4
import Derived.Sort.Grow
set_option linter.unusedSimpArgs false
set_option maxRecDepth 100000
set_option maxHeartbeats 40000000
namespace Go.Proofs.YtiaigidbcljblaaGreatDoor
open Go.Proofs.Tryz
section
set_option maxRecDepth 100000
open Go.RowKit
def pX(l:List (Wl×Int)):(Wl->Option Int)×Nat:=l.foldl (λs p=>(rX s.1 p.1 p.2,MJ s.1 p.1 s.2)) (λ_=>none,0)
theorem zM(l:List (Wl×Int))(k:Nat)(h:k<l.length):pX (l.take (k+1))=(rX (pX (l.take k)).1 l[k].1 l[k].2,MJ (pX (l.take k)).1 l[k].1 (pX (l.take k)).2):=by
 unfold pX;rw[j6 h,List.foldl_append];rfl
attribute [irreducible] pX
theorem UR(v:Value)(l:List (Wl×Int))(w:Wd)(hs:Sn w 33 v l.length (l.flatMap aO))(R:∀ p∈l,EntOk p)(hl:l.length<=1000):
  Wc 150 #[v] w λe w'=>∃ g b,e = .returned (.pointer (some ⟨g,0,none⟩))/\IX w' g b l.length (pX l).1 (pX l).2/\w.heap.size<=g/\w.heap.size<=b/\Bw w w':=by
 obtain⟨A,cap,rfl,a2,_,_⟩:=id hs;have HS:=jz hs;have I:=jz R;clear hs R;have a0:∀ w:Wd,(Instr.makeMap 292 none).run prog w = .ok (.map (some w.heap.size)) (w.alloc (.map #[] 0)):=λw=>run_makeMap _ w
 go_enter func150,ntmps150
 go_wp2_with fail
 clear a0;go_loopw [11] (λi wr=>∃ k:Nat,k<=l.length/\i = .int .i64 k/\IX wr (w.heap.size+1) w.heap.size k (pX (l.take k)).1 (pX (l.take k)).2/\Bw w wr) (λi _=>l.length-(intOf i).toNat)
 case atStart=>
  refine⟨0,j0 _,rfl,⟨?_,by omega,?_⟩,(by repeat (first|exact ji _ _|assumption|refine cA ?_ _|refine Below.setCell ?_ (by first|exact ja _|assumption|omega|(simp <;> omega)) _|refine Below.alloc ?_ (by first|exact ja _|assumption|omega|(simp <;> omega)) _))⟩
  ·exact(Blk.newAt (w.alloc (.map #[] 0)) 294 #[.map (some w.heap.size)] (w.heap.size+1) (by simp)).cell 0
  ·unfold pX;exact(DM.made w).keep ((ji _ _).alloc (ja _) _)
 case round=>
  obtain⟨k,hk,rfl,V,hb⟩:=hrel;by_cases hlt:k<l.length
  ·obtain⟨b,off,rfl,hr⟩:=TV aO EntOk 33 bC (HS.below hb) I k hlt;have hr:wr.rangeAt b (off+k*33) (aO l[k]):=hr;have x:=I.out l[k] (List.getElem_mem hlt);have j:=bC l[k] x;have h1:(aO l[k]).toArray.all (·.oneCell')=true:=iM l[k].1 l[k].2;have D:=jz (zM l k hlt);have a6:=hb.size;have a1:=V.2.2.lt;have a4:(0:Int)<=k:=by omega
   have a5:(k:Int)<l.length:=by omega
   go_wp2_with (first
    | (refine ld 172 _ rfl rfl rfl hr underlying172 rfl (by rw[j];kernel_rfl) ?_)
    | (refine bZ 172 (.tmp 5) (.tmp 14) rfl rfl rfl rfl (by simp only[js,j];kernel_rfl) (by simp only[js,j] <;> rfl) h1 ?_;intro w2 K J a3;have U:=Blk.range K;rw[jt] at U)
    | (refine ld 172 _ rfl rfl rfl U underlying172 rfl (by rw[j];kernel_rfl) ?_))
   refine(KS _ _ k _ _ l[k].1 l[k].2 w2 (V.keep J) x.dig x.exp (by unfold maxLen;omega)).mono ?_;rintro e w3 ⟨rfl,Z,O⟩;go_wp2_with fail
   refine⟨⟨k+1,by omega,by go_num,?_,(aA hb J).trans (O.below (ja _) (by omega))⟩,by simp[intOf];omega⟩;rw[D.out];exact Z
  ·obtain rfl:k=l.length:=by omega
   rw[List.take_length] at V;go_wp2_with fail
   go_ret;exact⟨_,_,rfl,V,Nat.le_succ _,ja _,hb⟩
end
section
set_option maxRecDepth 100000
open Go.RowKit
def nW(f:Wl->Option Int)(now:Int):Wl->Option Int:=λd=>match f d with|some t=>if t<now then none else some t|none=>none
theorem DM.zero{w:Wd}{b n c:Nat}{f:Wl->Option Int}(h:DM w b n f c)(R:∀ d,DigOk d->f d=none):c=0:=by
 obtain⟨D,I,K⟩:=h;obtain⟨w',hrun,U,Z,r3⟩:=I.range keyed underlying292;rcases U.next keyed 0 with ⟨O,_⟩|⟨key,v,V,y,w'',J,j,x,_⟩
 ·rw[<- K.1];exact O
 ·obtain⟨d,hd,_,rfl⟩:=rW j;rw[K.has hd,R d hd] at x;cases x
theorem Off.of_turned{w w':Wd}{b:Nat}(h:w.mapTurned w' b):Off b w w':=Off.of_grown h.grown
theorem P6(g b n c:Nat)(f:Wl->Option Int)(now:Int)(w:Wd)(h:IX w g b n f c)(hn:n<=1000):
  Wc 152 #[.pointer (some ⟨g,0,none⟩),.int .i64 now] w λe w'=>∃ k V:Nat,e = .returned (.int .i64 k)/\k+V=c/\IX w' g b n (nW f now) V/\Off b w w':=by
 obtain⟨hg,hgb,hm⟩:=h;have hc:=hm.le;go_enter func152,ntmps152
 go_wp2_with (at_range;refine P5 underlying292 rfl _ rfl rfl hm ?_;intro w1 c2 U f7)
 simp only[jq];have a7:Off b w w1:=⟨U.os,U.tape,U.output,U.size,λk hk _=>U.block k hk (by simp)⟩;have f0:=hm.lt;have f1:=dW hg;go_loopw [5] (λm wr=>∃(k V cnt:Nat) (f':Wl->Option Int) (left:Wl->Bool),m = .int .i64 k/\k+V=c/\DR wr b w.heap.size n f' V left cnt/\Off b w wr/\Hid (∀ d,DigOk d->f' d=if left d then f d else nW f now d)) (λ_ wr=>wr.rangeLeft b w.heap.size)
 case atStart=>exact⟨0,c,c,f,_,rfl,by omega,c2,a7,jz (λd _=>by
  cases h:f d <;> simp[h,nW])⟩
 case round=>
  obtain⟨k,V,cnt,f',left,rfl,hk,hR,D,HF⟩:=hrel;have d7:wr.cell? ⟨g,0,none⟩=some (.map (some b)):=D.cell hg hgb;have a3:=jz hR.left_eq;have f5:=D.size;go_wp2_with (at_next;refine XF rfl _ rfl rfl hR ?_ ?_)
  ·intro h0 c6;go_wp2_with fail
   go_ret;refine⟨k,V,rfl,hk,⟨d7,hgb,hR.owns.congr λd hd=>?_⟩,D⟩;rw[HF.out d hd,jQ (by rw[c6 d hd];simp)]
  ·intro d t w2 a2 hd f8 hl a6 Z K a0 c9 d5;have h1:=dN d;have O:(u8s d).length=32:=by simp[u8s,hd.len]
   have a4:f d=some t:=by
    have:=HF.out d hd;rw[jP hl] at this;rw[<- this];exact a6
   have I:Off b w w2:=⟨a0.os.trans D.os,a0.tape.trans D.tape,a0.output.trans D.output,by omega,λi hi e0=>(a0.block i (by omega) (λe=>by injection e with e;omega)).trans (D.block i hi e0)⟩;have c7:w2.cell? ⟨g,0,none⟩=some (.map (some b)):=I.cell hg hgb;have b0:=jz a6;have a1:=jz a4;have b1:=jz K;have f6:=jz c9;clear hR c2 a6 a4 K c9;rcases jb (decide (t<now)) with t1|t1
   ·go_wp2_with (refine bZ 26 (.tmp 6) (.tmp 18) rfl rfl rfl rfl (by simp only[js,O];kernel_rfl) (by simp only[js,O] <;> rfl) h1 ?_;intro w3 R J e8)
    have f2:=j9 J c7;have d1:=Z.keep J;have a8:=I.trans (Off.of_below J);have a5:=Blk.range R;rw[jt] at a5;have d0:w2.heap.size≠b:=by have:=I.size;omega
    have f9:=underlying26;have g0:(prog.info? 26).map (·.size)=some (u8s d).length:=by rw[O];kernel_rfl
    have c3:DR w3.drew b w.heap.size n f' V (λx=>left x && !(x == d)) a2:=d1.of_blocks rfl rfl;have e1:IntKind.i64.wrap ((k:Int)+1)=(k:Int)+1:=IntWalk.i64_in _ (by omega);clear Z R d5
    go_region_held3 (λw'=>w'.cell? ⟨g,0,none⟩=some (.map (some b))/\w'.rangeAt w2.heap.size 0 (u8s d))
     (first
      | (refine⟨by assumption,by assumption⟩)
      | (go_split_ands;exact⟨by assumption,by assumption⟩)
      | (go_split_ands;exact⟨(Off.of_turned hturn).cell (by assumption) hgb,λj u hj=>(Off.of_turned hturn).cell (show w3.drew.cell? ⟨w2.heap.size,0+j,none⟩=some u from a5 j u hj) d0⟩)
      | go_keep)
     ((refine UN underlying292 _ _ rfl rfl rfl c3 hd rfl ?_;intro w4 c4 b7 c5 d2 f3 hturn))
    go_wp2_with fail
    have a9:=a8.trans (show Off b w3 w4 from(show Off b w3 w3.drew from⟨rfl,rfl,rfl,ja _,λ_ _ _=>rfl⟩).trans (Off.of_turned hturn));rw[b0.out,Option.isSome_some,jP rfl] at d2;refine⟨⟨k+1,c4,b7,cut f' d,_,by go_num,by omega,c5,a9,jz λx hx=>?_⟩,?_⟩
    ·by_cases hxd:x=d
     ·subst hxd;have K:=of_decide_eq_true t1;simp[cut,nW,a1.out,K]
     ·simp only[cut,jQ hxd];rw[HF.out x hx];simp[hxd]
    ·rw[a3.out,c5.left_eq];have:=b1.out;omega
   ·go_wp2_with (refine bZ 26 (.tmp 6) (.tmp 18) rfl rfl rfl rfl (by simp only[js,O];kernel_rfl) (by simp only[js,O] <;> rfl) h1 ?_;intro w3 R J e8)
    refine⟨⟨k,V,a2,f',_,rfl,hk,Z.keep J,I.trans (Off.of_below J),jz λx hx=>?_⟩,?_⟩
    ·by_cases hxd:x=d
     ·subst hxd;have K:=of_decide_eq_false t1;simp[nW,b0.out,a1.out,K]
     ·rw[HF.out x hx];simp[hxd]
    ·rw[a3.out,(Z.keep J).left_eq];exact b1.out
end
section
set_option maxRecDepth 100000
theorem P7(x y:Int):nH y x = -nH x y:=by
 unfold nH;split <;> split <;> omega
theorem kQ(x y:Int):nH x y = -1/\x<y\/nH x y=0/\x=y\/nH x y=1/\y<x:=by
 unfold nH;split
 ·exact .inl ⟨rfl,by assumption⟩
 ·split
  ·exact .inr (.inr ⟨rfl,by assumption⟩)
  ·exact .inr (.inl ⟨rfl,by omega⟩)
theorem EE:∀ x y:Wl,jJ y x = -jJ x y
 | [],[]=>rfl
 | [],_ :: _=>rfl
 | _ :: _,[]=>rfl
 | a :: x,b :: y=>by
  have ih:=EE x y;simp only[jJ];split
  ·rw[jQ (by omega)]
  ·split
   ·rfl
   ·exact ih
theorem zN:∀ x y:Wl,jJ x y=0->x=y
 | [],[],_=>rfl
 | [],_ :: _,h=>by simp[jJ] at h
 | _ :: _,[],h=>by simp[jJ] at h
 | a :: x,b :: y,h=>by
  simp only[jJ] at h;split at h
  ·omega
  ·split at h
   ·omega
   ·rw[zN x y h,show a=b by omega]
theorem zO:∀ x:Wl,jJ x x=0
 | []=>rfl
 | a :: x=>by
  simp only[jJ];rw[jQ (by omega),jQ (by omega)];exact zO x
theorem wG:∀ x y z:Wl,jJ x y<=0->jJ y z<=0->jJ x z<=0
 | [],[],[],_,_=>by simp[jJ]
 | [],_ :: _,[],_,_=>by simp[jJ]
 | [],_,_ :: _,_,_=>by simp[jJ]
 | _ :: _,[],_,h,_=>by simp[jJ] at h
 | _ :: _,_ :: _,[],_,h=>by simp[jJ] at h
 | a :: x,b :: y,c :: z,h,h'=>by
  have ih:=wG x y z;simp only[jJ] at h h' ⊢;split at h
  ·split at h'
   ·rw[jP (by omega)];omega
   ·split at h'
    ·omega
    ·rw[jP (by omega)];omega
  ·split at h
   ·omega
   ·split at h'
    ·rw[jP (by omega)];omega
    ·split at h'
     ·omega
     ·rw[jQ (by omega),jQ (by omega)];exact ih h h'
theorem dQ(p q:Wl×Int):dP q p = -dP p q:=by
 unfold dP;rw[P7 p.2 q.2];have:=kQ p.2 q.2;by_cases h:nH p.2 q.2=0
 ·rw[h,jQ (by simp),jQ (by simp)];exact EE _ _
 ·rw[jP (by omega),jP h]
theorem fY(p q:Wl×Int):dP p q=0 ↔ p=q:=by
 constructor
 ·intro h;unfold dP at h;rcases kQ p.2 q.2 with ⟨e,_⟩|⟨e,j⟩|⟨e,_⟩
  ·rw[e] at h;simp at h
  ·rw[e,jQ (by simp)] at h;exact Prod.ext (zN _ _ h) j
  ·rw[e] at h;simp at h
 ·rintro rfl;unfold dP;have:nH p.2 p.2=0:=by unfold nH;simp
  rw[this,jQ (by simp)];exact zO _
theorem mM(p q r:Wl×Int)(h:dP p q<=0)(j:dP q r<=0):dP p r<=0:=by
 unfold dP at h j ⊢;have t:=wG p.1 q.1 r.1;have c1:=kQ p.2 q.2;have x:=kQ q.2 r.2;have D:=kQ p.2 r.2;split at h <;> split at j <;> split <;> omega
set_option maxRecDepth 100000
theorem P8(l:List (Wl×Int)):pX l=l.foldl (λs p=>(rX s.1 p.1 p.2,MJ s.1 p.1 s.2)) (λ_=>none,0):=by unfold pX;rfl
theorem pK:∀(L M:List (Wl×Int)),L.Pairwise (λp q=>dP p q<0)->M.Pairwise (λp q=>dP p q<0)->(∀ p,p∈L ↔ p∈M)->L=M
 | [],[],_,_,_=>rfl
 | [],q :: M,_,_,h=>by have:=(h q).2 (by simp);simp at this
 | p :: L,[],_,_,h=>by have:=(h p).1 (by simp);simp at this
 | p :: L,q :: M,hL,hM,h=>by
  rw[List.pairwise_cons] at hL hM;have D:p=q:=by
   have h1:=(h p).1 (by simp);have j:=(h q).2 (by simp);rw[jl] at h1 j;rcases h1 with h1|h1
   ·exact h1
   ·rcases j with j|j
    ·exact j.symm
    ·have J:=hM.1 p h1;have K:=hL.1 q j;have:=dQ p q;omega
  subst D;have I:dP p p=0:=(fY p p).2 rfl;rw[pK L M hL.2 hM.2 λr=>?_];constructor
  ·intro x;have h1:=(h r).1 (by simp[x]);rw[jl] at h1;rcases h1 with rfl|h1
   ·have:=hL.1 _ x;omega
   ·exact h1
  ·intro x;have h1:=(h r).2 (by simp[x]);rw[jl] at h1;rcases h1 with rfl|h1
   ·have:=hM.1 _ x;omega
   ·exact h1
set_option maxRecDepth 100000
open Go.RowKit
theorem DM.dropped{w:Wd}{b n c:Nat}{f:Wl->Option Int}(h:DM w b n f c){d:Wl}(hd:DigOk d):∃ w' x,DM w' b n (cut f d) x/\x+(if (f d).isSome then 1 else 0)=c:=by
 obtain⟨D,j,K⟩:=h;obtain⟨w',_,J,_⟩:=j.drop keyed underlying292 (kP hd) 0;obtain⟨x,I,e⟩:=K.del (j.tidy keyed) hd;exact⟨w',x,⟨_,J,I⟩,e⟩
theorem DM.count(b n:Nat):∀(K:List Wl) (w:Wd) (f:Wl->Option Int) (c:Nat),DM w b n f c->(∀ d∈K,DigOk d)->K.Nodup->(∀ d,DigOk d->((f d).isSome=true ↔ d∈K))->c=K.length
 | [],w,f,c,h,_,_,hf=>h.zero λd hd=>by
  cases h1:f d with
  | none=>rfl
  | some t=>
   have:=(hf d hd).1 (by rw[h1];rfl);simp at this
 | d :: K,w,f,c,h,hok,hnd,hf=>by
  rw[List.nodup_cons] at hnd;have hd:=hok d (by simp);obtain⟨w',D,I,e⟩:=h.dropped hd;rw[jP ((hf d hd).2 (by simp))] at e;have:=DM.count b n K w' (cut f d) D I (λx j=>hok x (by simp[j])) hnd.2 (λx j=>by
   unfold cut
   by_cases hxd:x=d
   ·subst hxd
    simp[hnd.1]
   ·rw[jQ hxd,hf x j]
    simp[hxd])
  simp only[List.length_cons];omega
structure Lists(f:Wl->Option Int)(L:List (Wl×Int)):Prop where
 mem:∀ p:Wl×Int,p∈L ↔ EntOk p/\f p.1=some p.2
 sorted:L.Pairwise (λp q=>dP p q<0)
 exp:∀ d t,DigOk d->f d=some t->aE t
theorem wH{f:Wl->Option Int}{now:Int}{d:Wl}{t:Int}(h:nW f now d=some t):f d=some t:=by
 unfold nW at h;cases hf:f d with
 | none=>rw[hf] at h;cases h
 | some s=>
  rw[hf] at h;simp only at h;split at h
  ·cases h
  ·exact h
theorem Lists.nodup{f:Wl->Option Int}{L:List (Wl×Int)}(h:Lists f L):(L.map (·.1)).Nodup:=by
 rw[List.nodup_iff_pairwise_ne,List.pairwise_map];have hs:L.Pairwise (λp q=>p≠q):=h.sorted.imp λ{p q} I e=>by
  subst e;have:=(fY p p).2 rfl;omega
 refine List.Pairwise.imp_of_mem (λ{p q} D J j e=>?_) hs;have h1:=((h.mem p).1 D).2;have x:=((h.mem q).1 J).2;rw[e,x] at h1;injection h1 with h1
 exact j (Prod.ext e h1.symm)
theorem Lists.count{f:Wl->Option Int}{L:List (Wl×Int)}(h:Lists f L){w:Wd}{b n c:Nat}(x:DM w b n f c):c=L.length:=by
 have:=DM.count b n (L.map (·.1)) w f c x (λd hd=>by
  obtain⟨p,j,rfl⟩:=List.mem_map.1 hd
  exact((h.mem p).1 j).1.dig) h.nodup (λd hd=>by
  constructor
  ·intro hs
   obtain⟨t,ht⟩:=Option.isSome_iff_exists.1 hs
   exact List.mem_map.2 ⟨(d,t),(h.mem _).2 ⟨⟨hd,x.i64 hd ht⟩,ht⟩,rfl⟩
  ·intro hs
   obtain⟨p,j,rfl⟩:=List.mem_map.1 hs
   rw[((h.mem p).1 j).2]
   rfl)
 rw[this,List.length_map]
theorem Lists.eq{f:Wl->Option Int}{L M:List (Wl×Int)}(h:Lists f L)(j:Lists f M):L=M:=
 pK L M h.sorted j.sorted λp=>by rw[h.mem,j.mem]
def bT(l:List (Wl×Int))(now:Int):List (Wl×Int):=l.filter λp=>decide (now<=p.2)
theorem Lists.live{f:Wl->Option Int}{L:List (Wl×Int)}(h:Lists f L)(now:Int):Lists (nW f now) (bT L now) where
 mem p:=by
  unfold bT;rw[List.mem_filter,h.mem p];unfold nW;simp only[decide_eq_true_eq];cases hf:f p.1 with
  | none=>simp
  | some t=>
   simp only[Option.some.injEq];constructor
   ·rintro⟨⟨h1,h2⟩,h3⟩;subst h2;exact⟨h1,by rw[jQ (by omega)]⟩
   ·rintro⟨h1,h2⟩;by_cases ht:t<now
    ·rw[jP ht] at h2;cases h2
    ·rw[jQ ht] at h2;injection h2 with h2
     exact⟨⟨h1,h2⟩,by omega⟩
 sorted:=h.sorted.sublist List.filter_sublist
 exp d t hd ht:=h.exp d t hd (wH ht)
theorem Lists.of_live{f:Wl->Option Int}{now:Int}{L:List (Wl×Int)}(h:∀ p:Wl×Int,p∈L ↔ EntOk p/\f p.1=some p.2/\now<=p.2)(hs:L.Pairwise (λp q=>dP p q<0))(hi:∀ d t,DigOk d->f d=some t->aE t):Lists (nW f now) L where
 mem p:=by
  rw[h p];unfold nW;cases hf:f p.1 with
  | none=>simp
  | some t=>
   simp only[Option.some.injEq];constructor
   ·rintro⟨h1,h2,h3⟩;subst h2;exact⟨h1,by rw[jQ (by omega)]⟩
   ·rintro⟨h1,h2⟩;by_cases ht:t<now
    ·rw[jP ht] at h2;cases h2
    ·rw[jQ ht] at h2;injection h2 with h2
     exact⟨h1,h2,by omega⟩
 sorted:=hs
 exp d t hd ht:=hi d t hd (wH ht)
theorem Lists.congr{f g:Wl->Option Int}{L:List (Wl×Int)}(h:Lists f L)(e:∀ d,DigOk d->f d=g d):Lists g L where
 mem p:=by
  rw[h.mem p];constructor
  ·rintro⟨h1,h2⟩;exact⟨h1,by rw[<- e _ h1.dig];exact h2⟩
  ·rintro⟨h1,h2⟩;exact⟨h1,by rw[e _ h1.dig];exact h2⟩
 sorted:=h.sorted
 exp d t hd ht:=h.exp d t hd (by rw[e d hd];exact ht)
end
section
set_option maxRecDepth 100000
def eI(e:Wl×Int)(s:List (Wl×Int)×Bool)(q:Wl×Int):List (Wl×Int)×Bool:=
 let s':=if !s.2 && decide (dP e q<0) then (s.1++[e],true) else s
 (if decide (q.1=e.1) then s'.1 else s'.1++[q],s'.2)
def nX(e q:Wl×Int):Bool:=decide (q.1=e.1) && decide (e.2<=q.2)
def yR(L:List (Wl×Int))(e:Wl×Int):List (Wl×Int)×Bool:=L.foldl (eI e) ([],false)
def fB(L:List (Wl×Int))(e:Wl×Int):List (Wl×Int)×Bool:=
 if L.any (nX e) then (L,false) else (if (yR L e).2 then (yR L e).1 else (yR L e).1++[e],true)
theorem P9(L:List (Wl×Int))(e:Wl×Int):(yR L e).1.length<=L.length+1/\((yR L e).2=false->(yR L e).1.length<=L.length):=by
 unfold yR;have key:∀(L:List (Wl×Int)) (s:List (Wl×Int)×Bool) (n:Nat),s.1.length<=n+1->(s.2=false->s.1.length<=n)->(L.foldl (eI e) s).1.length<=n+L.length+1/\((L.foldl (eI e) s).2=false->(L.foldl (eI e) s).1.length<=n+L.length):=by
  intro L;induction L with
  | nil=>intro s n h j;exact⟨by simpa using h,by simpa using j⟩
  | cons q L ih=>
   intro s n h j;rw[List.foldl_cons];have:=ih (eI e s q) (n+1) (by
    obtain⟨o,p⟩:=s
    unfold eI
    cases p <;> (simp only[Bool.not_true,Bool.not_false,Bool.false_and,Bool.true_and] at *;repeat' split) <;> simp at * <;> omega) (by
    obtain⟨o,p⟩:=s
    unfold eI
    cases p <;> (simp only[Bool.not_true,Bool.not_false,Bool.false_and,Bool.true_and] at *;repeat' split) <;> simp at * <;> omega)
   simp only[List.length_cons];exact⟨by omega,λx=>by have:=this.2 x;omega⟩
 have:=key L ([],false) 0 (by simp) (by simp);simpa using this
theorem G5(L:List (Wl×Int))(e:Wl×Int):(fB L e).1.length<=L.length+1:=by
 have:=P9 L e;unfold fB;split
 ·simp
 ·split
  ·exact this.1
  ·rename_i h;have:=this.2 (by simpa using h);simp;omega
theorem yS{p q r:Wl×Int}(h:dP p q<0)(D:dP q r<0):dP p r<0:=by
 have I:=mM p q r (by omega) (by omega);have x:dP p r≠0:=λe=>by
  have j:=(fY _ _).1 e;subst j;have:=dQ p q;omega
 omega
theorem BU(e:Wl×Int):∀(rest out:List (Wl×Int)) (placed:Bool),rest.Pairwise (λp q=>dP p q<0)->out.Pairwise (λp q=>dP p q<0)->(∀ x∈out,∀ y∈rest,dP x y<0)->(placed=false->∀ x∈out,dP x e<0) ->
  (∀ q∈rest,q.1=e.1->q.2<e.2)->(placed=true->∀ q∈rest,dP e q<0) ->
  let s:=rest.foldl (eI e) (out,placed)
  let r:=if s.2 then s.1 else s.1++[e]
  r.Pairwise (λp q=>dP p q<0)/\∀ x,x∈r ↔ x∈out\/(placed=false/\x=e)\/(x∈rest/\x.1≠e.1)
 | [],out,placed,_,ho,_,hp,_,_=>by
  cases placed with
  | true=>simpa using ho
  | false=>
   simp only[List.foldl_nil,Bool.false_eq_true,if_false];refine⟨List.pairwise_append.2 ⟨ho,by simp,λx j y hy=>?_⟩,λx=>by simp⟩;obtain rfl:y=e:=by simpa using hy
   exact hp rfl x j
 | q :: rest,out,placed,hr,ho,hor,hp,hb,hpl=>by
  rw[List.foldl_cons];rw[List.pairwise_cons] at hr;have R:q.1=e.1->dP q e<0:=λhd=>by
   have:=hb q (by simp) hd;unfold dP nH;simp[this]
  -- the state behind q
  by_cases hplace:placed=false/\dP e q<0
  ·obtain⟨rfl,J⟩:=hplace;have K:¬q.1=e.1:=λhd=>by
    have h1:=R hd;have:=dQ q e;omega
   have D:eI e (out,false) q=(out++[e]++[q],true):=by
    unfold eI;simp[J,K]
   rw[D];have I:∀ y∈rest,dP e y<0:=λy hy=>yS J (hr.1 y hy)
   have:=BU e rest (out++[e]++[q]) true hr.2 (by
     refine List.pairwise_append.2 ⟨List.pairwise_append.2 ⟨ho,by simp,λx j y hy=>?_⟩,by simp,λx j y hy=>?_⟩
     ·obtain rfl:y=e:=by simpa using hy
      exact hp rfl x j
     ·obtain rfl:y=q:=by simpa using hy
      rcases List.mem_append.1 j with j|j
      ·exact hor x j y (by simp)
      ·obtain rfl:x=e:=by simpa using j
       exact J) (λx j y hy=>by
     rcases List.mem_append.1 j with j|j
     ·rcases List.mem_append.1 j with j|j
      ·exact hor x j y (by simp[hy])
      ·obtain rfl:x=e:=by simpa using j
       exact I y hy
     ·obtain rfl:x=q:=by simpa using j
      exact hr.1 y hy) (λh=>by simp at h) (λx j=>hb x (by simp[j])) (λ_=>I)
   refine⟨this.1,λx=>(this.2 x).trans ?_⟩;simp only[ju,jl,j8,or_false,Bool.true_eq_false,false_and,false_or,true_and];constructor
   ·rintro(((h|h)|h)|⟨h,h'⟩)
    ·exact .inl h
    ·exact .inr (.inl h)
    ·subst h;exact .inr (.inr ⟨.inl rfl,K⟩)
    ·exact .inr (.inr ⟨.inr h,h'⟩)
   ·rintro(h|h|⟨h|h,h'⟩)
    ·exact .inl (.inl (.inl h))
    ·exact .inl (.inl (.inr h))
    ·exact .inl (.inr h)
    ·exact .inr ⟨h,h'⟩
  ·have O:((!placed) && decide (dP e q<0))=false:=by
    cases placed <;> simp at hplace ⊢
    exact hplace
   have U:placed=false->q.1≠e.1->dP q e<0:=λh1 V=>by
    have Z:¬dP e q<0:=λh=>hplace ⟨h1,h⟩
    have h4:=dQ q e;have h5:dP q e≠0:=λh=>V (by rw[(fY q e).1 h])
    omega
   by_cases hd:q.1=e.1
   ·have D:eI e (out,placed) q=(out,placed):=by
     unfold eI;simp[O,hd]
    rw[D];have:=BU e rest out placed hr.2 ho (λx j y hy=>hor x j y (by simp[hy])) hp (λx j=>hb x (by simp[j])) (λh y hy=>hpl h y (by simp[hy]));refine⟨this.1,λx=>(this.2 x).trans ?_⟩;rw[jl];constructor
    ·rintro(h|h|⟨h,h'⟩)
     ·exact .inl h
     ·exact .inr (.inl h)
     ·exact .inr (.inr ⟨.inr h,h'⟩)
    ·rintro(h|h|⟨h|h,h'⟩)
     ·exact .inl h
     ·exact .inr (.inl h)
     ·subst h;exact absurd hd h'
     ·exact .inr (.inr ⟨h,h'⟩)
   ·have D:eI e (out,placed) q=(out++[q],placed):=by
     unfold eI;simp[O,hd]
    rw[D];have:=BU e rest (out++[q]) placed hr.2 (by
      refine List.pairwise_append.2 ⟨ho,by simp,λx j y hy=>?_⟩
      obtain rfl:y=q:=by simpa using hy
      exact hor x j y (by simp)) (λx j y hy=>by
      rcases List.mem_append.1 j with j|j
      ·exact hor x j y (by simp[hy])
      ·obtain rfl:x=q:=by simpa using j
       exact hr.1 y hy) (λh x j=>by
      rcases List.mem_append.1 j with j|j
      ·exact hp h x j
      ·obtain rfl:x=q:=by simpa using j
       exact U h hd) (λx j=>hb x (by simp[j])) (λh y hy=>hpl h y (by simp[hy]))
    refine⟨this.1,λx=>(this.2 x).trans ?_⟩;simp only[ju,jl,j8,or_false];constructor
    ·rintro((h|h)|h|⟨h,h'⟩)
     ·exact .inl h
     ·subst h;exact .inr (.inr ⟨.inl rfl,hd⟩)
     ·exact .inr (.inl h)
     ·exact .inr (.inr ⟨.inr h,h'⟩)
    ·rintro(h|h|⟨h|h,h'⟩)
     ·exact .inl (.inl h)
     ·exact .inr (.inl h)
     ·exact .inl (.inr h)
     ·exact .inr (.inr ⟨h,h'⟩)
theorem rY{f:Wl->Option Int}{L:List (Wl×Int)}{e:Wl×Int}(h:Lists f L)(J:EntOk e):Lists (rX f e.1 e.2) (fB L e).1/\(fB L e).2 = !old? f e.1 e.2:=by
 have x:L.any (nX e)=old? f e.1 e.2:=by
  cases h1:f e.1 with
  | none=>
   have:old? f e.1 e.2=false:=by unfold old?;simp[h1]
   rw[this,List.any_eq_false];intro q I j;unfold nX at j;simp only[Bool.and_eq_true,decide_eq_true_eq] at j;have:=((h.mem q).1 I).2;rw[j.1,h1] at this;cases this
  | some t=>
   unfold old?;rw[h1];simp only[Option.isSome_some,Bool.true_and,Option.getD_some];rw[Bool.eq_iff_iff,List.any_eq_true,decide_eq_true_eq];constructor
   ·rintro⟨q,I,j⟩;unfold nX at j;simp only[Bool.and_eq_true,decide_eq_true_eq] at j;have:=((h.mem q).1 I).2;rw[j.1,h1] at this;injection this with this
    omega
   ·intro O;exact⟨(e.1,t),(h.mem _).2 ⟨⟨J.dig,h.exp _ _ J.dig h1⟩,h1⟩,by simp[nX,O]⟩
 rcases jb (old? f e.1 e.2) with D|D
 ·have K:fB L e=(L,false):=by unfold fB;rw[x,D];rfl
  have e2:rX f e.1 e.2=f:=by unfold rX;rw[jP D]
  rw[K,e2,D];exact⟨h,rfl⟩
 ·have K:fB L e=(if (yR L e).2 then (yR L e).1 else (yR L e).1++[e],true):=by unfold fB;rw[x,D];rfl
  have e2:rX f e.1 e.2=upd f e.1 e.2:=by unfold rX;rw[D];rfl
  rw[K,e2,D];refine⟨?_,rfl⟩;have hb:∀ q∈L,q.1=e.1->q.2<e.2:=λq I hd=>by
   have h1:=List.any_eq_false.1 (x.trans D) q I;unfold nX at h1;simp only[Bool.and_eq_true,decide_eq_true_eq,not_and] at h1;have:=h1 hd;omega
  have key:=BU e L [] false h.sorted (by simp) (by simp) (by simp) hb (by simp);refine⟨λp=>?_,key.1,λd t hd ht=>?_⟩
  ·refine(key.2 p).trans ?_;rw[h.mem p];unfold upd;by_cases hp:p.1=e.1
   ·rw[jP hp];constructor
    ·rintro(h1|⟨_,h1⟩|⟨_,h1⟩)
     ·simp at h1
     ·subst h1;exact⟨J,rfl⟩
     ·exact absurd hp h1
    ·rintro⟨_,h1⟩;injection h1 with h1
     exact .inr (.inl ⟨rfl,Prod.ext hp h1.symm⟩)
   ·rw[jQ hp];constructor
    ·rintro(h1|⟨_,h1⟩|⟨h1,_⟩)
     ·simp at h1
     ·subst h1;exact absurd rfl hp
     ·exact h1
    ·intro h1;exact .inr (.inr ⟨h1,hp⟩)
  ·unfold upd at ht;split at ht
   ·injection ht with ht
    subst ht;exact J.exp
   ·exact h.exp d t hd ht
theorem Lists.nil:Lists (λ_=>none) []:=⟨λp=>by simp,List.Pairwise.nil,λd t _ h=>by cases h⟩
def gD(l:List (Wl×Int)):List (Wl×Int):=l.foldl (λo e=>(fB o e).1) []
theorem G6(l:List (Wl×Int))(k:Nat)(h:k<l.length):gD (l.take (k+1))=(fB (gD (l.take k)) l[k]).1:=by
 unfold gD;rw[j6 h,List.foldl_append];rfl
theorem EF:∀ l:List (Wl×Int),(∀ p∈l,EntOk p)->Lists (pX l).1 (gD l):=by
 intro l x;have key:∀ k,k<=l.length->Lists (pX (l.take k)).1 (gD (l.take k))/\(gD (l.take k)).length<=k:=by
  intro k;induction k with
  | zero=>
   intro _;rw[P8];exact⟨Lists.nil,ja _⟩
  | succ k ih=>
   intro I;have j:k<l.length:=by omega
   obtain⟨h1,D⟩:=ih (by omega);rw[zM l k j,G6 l k j];have:=G5 (gD (l.take k)) l[k];exact⟨(rY h1 (x _ (List.getElem_mem j))).1,by omega⟩
 have:=(key l.length (ja _)).1
 rwa [List.take_length] at this
end
section
open Go.RowKit
section
variable {P : Program} {w : Wd}
end
end
section
set_option maxRecDepth 100000
set_option maxRecDepth 100000
open Go.RowKit
theorem ZM:SlT prog 52 172 33 40:=SlT.mk' underlying52 (z:=.agg (cW (List.replicate 32 0) 0).toArray) (by kernel_rfl) rfl (by decide)
end
section
open Go.RowKit
section
variable {P : Program} {ops : Array Oper} {Q : Exit -> Act -> Wd -> Prop} {S : Wd -> Prop} {a : Act} {w : Wd} {listed : Array Bool} {fuel : Nat}
theorem rF{x:List Nat}(i:Nat)(dst:Option Tmp){o:Oper}{f:FuncId}{args:Wa}(h:Calls P f args w λe w'=>∃ v,e = .returned v/\S w'/\(S w'->wpAnyH P .any ops Q S fuel (listed.setIfInBounds i true) (a.put dst v) w'))
  (hs:AllReadyH P .any ops Q S fuel listed a w x) (J:ops[i]? = some o:=by rfl) (j:o.dst=dst:=by rfl) (O:Region.wanted o (yielded ops a.tmps)=true:=by kernel_rfl)
  (hent:(execOp a.eval o).run P w = .ok (.enter f args) w:=by unfold execOp;go_simp):AllReadyH P .any ops Q S fuel listed a w (i :: x):=by
 subst j;refine AllReadyH.cons J (λK D=>?_) hs;rw[jP O];unfold Oper.wp;rw[hent,Oper.upon_enter];refine h.mono ?_;rintro e w' ⟨v,rfl,hS,I⟩;exact D _ _ hS I
theorem rA{D:List Nat}(i:Nat)(dst:Option Tmp)(zs:Wa){ty:TypeId}(R:∀ w,(zeroValue ty).run P w = .ok (.agg zs) w)(hS:S (w.alloc (.cells zs ty)))
  (h:wpAnyH P .any ops Q S fuel (listed.setIfInBounds i true) (a.put dst (.pointer (some ⟨w.heap.size,0,none⟩))) (w.alloc (.cells zs ty)))
  (hs:AllReadyH P .any ops Q S fuel listed a w D) {o:Oper} (J:ops[i]? = some o:=by rfl) (j:o.dst=dst:=by rfl) (x:o.op = .alloc ty:=by rfl) (O:Region.wanted o (yielded ops a.tmps)=true:=by kernel_rfl):AllReadyH P .any ops Q S fuel listed a w (i :: D):=by
 subst j;refine AllReadyH.cons J (λK I=>?_) hs;rw[jP O];unfold Oper.wp;have:(execOp a.eval o).run P w = .ok (.value (.pointer (some ⟨w.heap.size,0,none⟩))) (w.alloc (.cells zs ty)):=by
  unfold execOp;simp only[x];unfold Instr.alloc newVar newRow;simp[Sem.run_bind,R,Value.cells]
 rw[this,Oper.upon_value];exact I _ _ hS (λ_=>h)
end
end
section
set_option maxRecDepth 100000
open Go.RowKit
theorem EG{w:Wd}{g:Nat}{T:TypeId}{p:Wl×Int}(h:Blk w g T (aO p).toArray)(J:EntOk p):w.rangeAt g 0 (u8s p.1)/\w.cell? ⟨g,32,none⟩=some (.int .i64 p.2):=by
 have x:(u8s p.1).length=32:=by simp[u8s,J.dig.len]
 constructor
 ·intro j u I;rw[Nat.zero_add,h.cell j];have D:=(List.getElem?_eq_some_iff.1 I).1;simp only[jf,aO,cW];rw[jy D];exact I
 ·rw[h.cell 32];simp only[jf,aO,cW];rw[jx (by omega),x];rfl
theorem QA{P:Program}{f:FuncId}{args:Wa}{Q:Ending->Wd->Prop}(w':Wd)(h:∀ j,j=w'->Calls P f args j Q):Calls P f args w' Q:=h _ rfl
theorem BV(p q:Wl×Int)(w:Wd)(Z:EntOk p)(hq:EntOk q):
  Wc 179 #[.agg (aO p).toArray,.agg (aO q).toArray] w λe w'=>e = .returned (.int .i64 (dP p q))/\∃(n:Nat) (os:Array Obj),w'=Sort.grow (w.drewN n) os:=by
 have K:Bw w ((w.alloc (.cells (aO p).toArray 172)).alloc (.cells (aO q).toArray 172)):=(by repeat (first|exact ji _ _|assumption|refine cA ?_ _|refine Below.setCell ?_ (by first|exact ja _|assumption|omega|(simp <;> omega)) _|refine Below.alloc ?_ (by first|exact ja _|assumption|omega|(simp <;> omega)) _));have I:=(Blk.new w 172 (aO p).toArray).alloc (.cells (aO q).toArray 172);have J:=Blk.newAt (w.alloc (.cells (aO p).toArray 172)) 172 (aO q).toArray (w.heap.size+1) (by simp);obtain⟨O,U⟩:=EG I Z;obtain⟨R,V⟩:=EG J hq;have l1:=bC p Z;have l2:=bC q hq;go_enter func179,ntmps179
 have x:=jz O;have D:=jz R;clear I J O R;rcases jb (nH p.2 q.2 == 0) with t1|t1
 all_goals
  go_wp2_with fail
  refine QA ((w.alloc (.cells (aO p).toArray 172)).alloc (.cells (aO q).toArray 172)) (λw1 j=>?_);rw[<- j] at K x D;have HW:Hid (w1=Sort.grow (w.drewN 0) #[.cells (aO p).toArray 172,.cells (aO q).toArray 172]):=jz (by rw[j,Sort.alloc_eq_grow,Sort.alloc_eq_grow,Sort.grow_grow];rfl);clear j U V;refine(ED p.2 q.2 w1).mono ?_;rintro e w2 ⟨rfl,rfl⟩;go_wp2_with fail
 ·go_region_held3 (λw'=>w'.rangeAt w.heap.size 0 (u8s p.1)/\w'.rangeAt (w.heap.size+1) 0 (u8s q.1)/\Bw w w')
   (first
    | (refine⟨x,D,K.drew⟩)
    | (go_split_ands;exact⟨by assumption,by assumption,by assumption⟩))
   ((go_at_call 235;refine(yQ _ _ _ _ p.1 q.1 _ Z.dig hq.dig (by go_split_ands;assumption) (by go_split_ands;assumption)).mono ?_;rintro e wX ⟨rfl,rfl⟩))
  all_goals
   go_wp2_with fail
   go_ret;have u1:nH p.2 q.2=0:=by simpa using t1
   refine⟨?_,1,_,by rw[HW.out];rfl⟩;unfold dP;rw[jQ (by rw[u1];simp)];rfl
 ·go_ret;have u1:nH p.2 q.2≠0:=by simpa using t1
  refine⟨?_,0,_,HW⟩;unfold dP;rw[jP u1];rfl
theorem below_grow{w:Wd}(d:Nat)(os:Array Obj):Bw w (Sort.grow (w.drewN d) os):=
 ⟨rfl,rfl,rfl,by simp[Sort.grow],λk j=>by
  show((w.drewN d).heap++os)[k]? = _
  rw[Array.getElem?_append_left (show k<(w.drewN d).heap.size from j)];rfl⟩
end
section
set_option maxRecDepth 100000
open Go.RowKit
attribute [local irreducible] wpQuiet
theorem zP{w:Wd}{b off:Nat}{p:Wl×Int}(J:w.rangeAt b off (aO p))(K:EntOk p):w.rangeAt b off (u8s p.1)/\w.cell? ⟨b,off+32,none⟩=some (.int .i64 p.2):=by
 have x:(u8s p.1).length=32:=by simp[u8s,K.dig.len]
 constructor
 ·intro j u I;refine J j u ?_;have D:=(List.getElem?_eq_some_iff.1 I).1;simp only[aO,cW];rw[jy D];exact I
 ·refine J 32 _ ?_;simp only[aO,cW];rw[jx (by omega),x];rfl
end
section
set_option maxRecDepth 100000
open Go.RowKit
attribute [local irreducible] wpQuiet wpAnyH
end
end Go.Proofs.YtiaigidbcljblaaGreatDoor
