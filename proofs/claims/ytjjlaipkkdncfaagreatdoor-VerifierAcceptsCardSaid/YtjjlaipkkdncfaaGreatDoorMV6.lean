import Derived.Test.YtjjlaipkkdncfaaGreatDoorMV1
import Derived.Laws.BitsAllLaws
import Derived.Deep.AppendLies
import Derived.WalkMore
import Derived.ScopeJumps
import Derived.Lib.SlBytesConst
set_option linter.unusedSimpArgs false
set_option maxRecDepth 100000
set_option maxHeartbeats 40000000
namespace Go.Proofs.YtjjlaipkkdncfaaGreatDoor
open Go.Proofs.Tryz
open Go.RowKit
attribute [local irreducible] wpQuiet wpAnyH
def nR(x:Nat):Nat:=if x % 2=1 then (x/2) ^^^ 2197175160 else x/2
def L5(x:Nat):Nat:=nR (nR (nR (nR (nR (nR (nR (nR x)))))))
theorem iK{x:Nat}(h:x<4294967296):nR x<4294967296:=by
 unfold nR;split
 ·exact Nat.xor_lt_two_pow (n:=32) (by omega) (by omega)
 ·omega
theorem QH{x:Nat}(h:x<4294967296):L5 x<4294967296:=by
 unfold L5;exact iK (iK (iK (iK (iK (iK (iK (iK h)))))))
def cV(x:Nat)(l:Wl):Nat:=l.foldl (λx c=>L5 (x ^^^ c.toNat)) x
def cD(l:Wl):Nat:=4294967295-cV 4294967295 l
theorem qA(l:Wl)(hb:Bys l):∀ x,x<4294967296->cV x l<4294967296:=by
 induction l with
 | nil=>intro x h;exact h
 | cons c l ih=>
  intro x h;have D:=hb c (by simp);exact ih (λb h=>hb b (by simp[h])) _ (QH (Nat.xor_lt_two_pow (n:=32) (by omega) (by omega)))
theorem nX(x:Nat)(a b:Wl):cV x (a++b)=cV (cV x a) b:=by
 unfold cV;rw[List.foldl_append]
theorem BE(x:Nat)(l:Wl)(k:Nat)(h:k<l.length):cV x (l.take (k+1))=L5 (cV x (l.take k) ^^^ l[k].toNat):=by
 rw[j6 h,nX];rfl
attribute [irreducible] cV
theorem L6(y:Nat)(hy:y<4294967296):4294967295 ^^^ y=4294967295-y:=by
 have h1:=BitVec.toNat_not (x:=BitVec.ofNat 32 y);have D:(BitVec.allOnes 32 ^^^ BitVec.ofNat 32 y).toNat=(~~~ BitVec.ofNat 32 y).toNat:=by rw[BitVec.allOnes_xor]
 rw[BitVec.toNat_xor,h1,BitVec.toNat_allOnes,BitVec.toNat_ofNat,Nat.mod_eq_of_lt (by omega)] at D;simpa using D
theorem QI(x:Nat)(w:Wd)(I:x<4294967296):
  Wc 252 #[.int .u32 x] w λe w'=>e = .returned (.int .u32 (nR x))/\w=w':=by
 have h1:bits .and .u32 (x:Int) 1=((x % 2:Nat):Int):=by
  have:=u32_and_nat x 1 I (by omega);rw[Nat.and_one_is_mod] at this;exact this
 have J:bits .xor .u32 ((x:Int)/2) 2197175160=(((x/2) ^^^ 2197175160:Nat):Int):=by
  have:=u32_xor_nat (x/2) 2197175160 (by omega) (by omega);simpa using this
 rcases jb ((x:Int) % 2 == 1) with D|D
 all_goals
  go_enter func252,ntmps252
  go_wp2_with fail
  go_ret
 ·have e:nR x=(x/2) ^^^ 2197175160:=by unfold nR;rw[jP (by simp at D;omega)]
  rw[e];exact⟨rfl,rfl⟩
 ·have e:nR x=x/2:=by unfold nR;rw[jQ (by simp at D;omega)]
  rw[e];exact⟨by simp,rfl⟩
def GT:Nat->Nat->Nat
 | 0,x=>x
 | j+1,x=>nR (GT j x)
theorem BF{x:Nat}(h:x<4294967296):∀ j,GT j x<4294967296
 | 0=>h
 | j+1=>iK (BF h j)
theorem JE(x:Nat)(w:Wd)(J:x<4294967296):
  Wc 246 #[.int .u32 x] w λe w'=>e = .returned (.int .u32 (L5 x))/\w=w':=by
 have K:=jz J;clear J;go_enter func246,ntmps246
 go_wp2_with fail
 go_loopw [3,0] (λi y wr=>∃ j:Nat,j<=8/\i = .int .i64 j/\y = .int .u32 (GT j x)/\wr=w) (λi _ _=>8-(intOf i).toNat)
 case atStart=>exact⟨0,j0 _,rfl,rfl,rfl⟩
 case round=>
  obtain⟨j,R,rfl,rfl,I⟩:=hrel;rw[I];clear I;by_cases hlt:j<8
  ·have O:(j:Int)<8:=by omega
   go_wp2_with fail
   refine(QI (GT j x) w (BF K j)).mono ?_;rintro e U ⟨rfl,D⟩;subst D;go_wp2_with fail
   exact⟨⟨j+1,by omega,by go_num,rfl,by trivial⟩,by simp[intOf];omega⟩
  ·obtain rfl:j=8:=by omega
   go_wp2_with fail
   go_ret;exact⟨rfl,rfl⟩
theorem QJ(r x:Nat)(vb:Value)(l:Wl)(w:Wd)(hc:w.cell? ⟨r,0,none⟩=some (.int .u32 x))(hf:w.frozen? ⟨r,0,none⟩=false)(hs:Sn w 1 vb l.length (u8s l))(hb:Bys l)(hl:l.length<64)(hx:x<4294967296):
  Wc 233 #[.pointer (some ⟨r,0,none⟩),vb] w λe w'=>e = .returned (.tuple #[])/\w'=w.setCell ⟨r,0,none⟩ (.int .u32 (cV x l)):=by
 obtain⟨A,cap,rfl,a1,_,_⟩:=id hs;have HS:=jz hs;have Z:=jz hb;have HX:=jz hx;have a2:(l.length:Int)<64:=by omega
 clear hs hb hx;go_enter func233,ntmps233
 go_wp2_with fail
 go_loopw [18,4] (λi y wr=>∃ j:Nat,j<=l.length/\i = .int .i64 j/\y = .int .u32 (cV x (l.take j))/\wr=w) (λi _ _=>l.length-(intOf i).toNat)
 case atStart=>exact⟨0,j0 _,rfl,by simp[cV],rfl⟩
 case round=>
  obtain⟨j,hj,rfl,rfl,hw⟩:=hrel;rw[hw];clear hw;by_cases hlt:j<l.length
  ·obtain⟨A',a0,hA,_,_,D⟩:=HS.out;injection hA with hA _ hcp
   subst hA hcp;obtain⟨b,off,rfl,hr⟩:=D (by omega);have U:=hr j _ (oX l j hlt);have R:=Z.out l[j] (List.getElem_mem hlt);obtain⟨c,J⟩:∃ c:Nat,l[j]=c:=⟨l[j].toNat,by omega⟩;have I:=BE x l j hlt;have K:=qA (l.take j) (λb hb=>Z.out b (j7 hb)) x HX.out;rw[J] at U I R;obtain⟨y,hy⟩:=je (cV x (l.take j));rw[<- hy] at I K ⊢;have O:=jz I;have a5:=u32_xor_nat y c K (by omega);have HZ:Hid (y ^^^ c<4294967296):=jz (Nat.xor_lt_two_pow (n:=32) (by omega) (by omega));have a3:(0:Int)<=j:=by omega
   have a4:(j:Int)<l.length:=by omega
   clear hr D I hy J;go_wp2_with fail
   refine(JE (y ^^^ c) w HZ).mono ?_;rintro e w1 ⟨rfl,V⟩;subst V;go_wp2_with fail
   refine⟨⟨j+1,by omega,by go_num,?_,by trivial⟩,by simp[intOf];omega⟩;rw[O.out];simp
  ·obtain rfl:j=l.length:=by omega
   rw[List.take_length];obtain⟨y,hy⟩:=je (cV x l);rw[<- hy];have HY:=jz hy;clear hy;go_wp2_with fail
   go_end0
   rw[HY.out];exact⟨rfl,rfl⟩
theorem yZ(va:Value)(ps:List (Value×Wl))(w:Wd)(Z:Parts w va ps)(hn:ps.length<=1000)(hb:∀ p∈ps,Bys p.2)(hl:∀ p∈ps,p.2.length<64):
  Wc 207 #[va] w (Rt w (.int .u32 (cD (cat ps)))):=by
 obtain⟨A,cap,rfl,b3,_,_⟩:=id Z.row;have HP:=jz Z;have HB:=jz hb;have a7:=jz hl;clear Z hb hl;go_enter func207,ntmps207
 go_wp2_with fail
 go_loopw [10] (λi wr=>∃ k:Nat,k<=ps.length/\i = .int .i64 k/\wr.cell? ⟨w.heap.size,0,none⟩=some (.int .u32 (cV 4294967295 (cat (ps.take k))))/\wr.frozen? ⟨w.heap.size,0,none⟩=false/\Bw w wr) (λi _=>ps.length-(intOf i).toNat)
 case atStart=>
  refine⟨0,j0 _,rfl,?_,?_,(by repeat (first|exact ji _ _|assumption|refine dG ?_ _|refine Below.setCell ?_ (by first|exact ja _|assumption|omega|(simp <;> omega)) _|refine Below.alloc ?_ (by first|exact ja _|assumption|omega|(simp <;> omega)) _))⟩
  ·have e:cV 4294967295 (cat (ps.take 0))=4294967295:=by simp[cV,cat]
   rw[e];exact(Blk.new w 335 #[.int .u32 4294967295]).cell 0
  ·exact(Blk.new w 335 #[.int .u32 4294967295]).frozen 0
 case round=>
  obtain⟨k,hk,rfl,J,hfr,U⟩:=hrel;by_cases hlt:k<ps.length
  ·obtain⟨b,off,A',c',rfl,hc,a0⟩:=(HP.below U).at k hlt;have a4:=AR ps k hlt;have V:=HB.out ps[k] (List.getElem_mem hlt);have a3:=a7.out ps[k] (List.getElem_mem hlt);have I:Bys (cat (ps.take k)):=λb hb=>by
    unfold cat at hb;rw[List.mem_flatMap] at hb;obtain⟨p,Z,hb⟩:=hb;exact HB p (j7 Z) b hb
   have D:=qA _ I 4294967295 (by omega);have O:cV 4294967295 (cat (ps.take (k+1)))=cV (cV 4294967295 (cat (ps.take k))) ps[k].2:=by rw[a4,nX]
   obtain⟨x,hx⟩:=je (ps[k].2);obtain⟨y,hy⟩:=je (cV 4294967295 (cat (ps.take k)));rw[<- hx] at hc a0 O V a3;rw[<- hy] at O J D;have a5:=jz O;have a9:=jz a0;have a6:=jz V;have a1:=jz J;have a8:=jz D;have b7:(0:Int)<=k:=by omega
   have b9:(k:Int)<ps.length:=by omega
   clear a0 hx hy a4 O V J D I;go_wp2_with fail
   refine(QJ w.heap.size y _ x wr a1 hfr a9 a6 a3 a8).mono ?_;rintro e w2 ⟨rfl,R⟩;have b0:Bw w w2:=by rw[R];exact U.setCell (p:=⟨w.heap.size,0,none⟩) (ja _) _
   have b1:w2.cell? ⟨w.heap.size,0,none⟩=some (.int .u32 (cV y x)):=by rw[R];exact World.cell?_setCell_same _ _ _ a1.out
   have b2:w2.frozen? ⟨w.heap.size,0,none⟩=false:=by rw[R,World.frozen?_setCell];exact hfr
   clear R;go_wp2_with fail
   refine⟨⟨k+1,by omega,by go_num,?_,b2,b0⟩,by simp[intOf];omega⟩;rw[a5.out];exact b1
  ·obtain rfl:k=ps.length:=by omega
   rw[List.take_length] at J;have I:Bys (cat ps):=λb hb=>by
    unfold cat at hb;rw[List.mem_flatMap] at hb;obtain⟨p,Z,hb⟩:=hb;exact HB p Z b hb
   have D:=qA _ I 4294967295 (by omega);have K:cD (cat ps)=4294967295-cV 4294967295 (cat ps):=rfl;obtain⟨y,hy⟩:=je (cV 4294967295 (cat ps));rw[<- hy] at J D K;have a2:=jz K;clear hy K I;go_wp2_with fail
   go_ret;rw[a2.out];refine⟨?_,U⟩;have e1:bits .xor .u32 IntKind.u32.max (y:Int)=((4294967295-y:Nat):Int):=by
    rw[<- L6 y D];exact u32_xor_nat 4294967295 y (by omega) D
   show Ending.returned (.int .u32 (bits .xor .u32 IntKind.u32.max (y:Int)))=_;rw[e1]
def body(p:Wl):Wl:=pad (beB 2 p.length++p)
def rec(g:Nat)(p:Wl):Wl:=(body p).take 56++(beB 4 (cD ((body p).take 56++beB 4 g))++beB 4 g)
theorem mM(p:Wl)(h:p.length<=54):(body p).length=64:=tL _ (by rw[jj,bE];omega)
theorem BG{p:Wl}(h:Bys p):Bys (body p):=QB λb hb=>by
 rcases List.mem_append.1 hb with hb|hb
 ·exact fR _ _ b hb
 ·exact h b hb
theorem iS(g:Nat)(p:Wl)(h:p.length<=54):(rec g p).length=64:=by
 unfold rec;rw[jj,jj,jv,mM p h,bE,bE];rfl
theorem xM(l:Wl):cD l<256 ^ 4:=by unfold cD;omega
theorem QK(g:Nat)(p:Wl)(h:p.length<=54):
  ((u8s (beB 4 g)).zipIdx 60).foldl (fun(cs:Wa) (x:Value×Nat)=>cs.setIfInBounds x.2 x.1) (((u8s (beB 4 (cD ((body p).take 56++beB 4 g)))).zipIdx 56).foldl (fun(cs:Wa) (x:Value×Nat)=>cs.setIfInBounds x.2 x.1) (u8s (body p)).toArray)=(u8s (rec g p)).toArray:=by
 have hb:=mM p h;have hs:(u8s (body p)).toArray.size=64:=by simp[u8s,hb]
 have D:=λx=>bE 4 x
 have J:(((u8s (beB 4 (cD ((body p).take 56++beB 4 g)))).zipIdx 56).foldl (fun(cs:Wa) (x:Value×Nat)=>cs.setIfInBounds x.2 x.1) (u8s (body p)).toArray).size=64:=by rw[lK];exact hs
 apply Array.ext_getElem?;intro i;rw[tN _ 64 J _ 60 (by rw[aK,D];omega),tN _ 64 hs _ 56 (by rw[aK,D];omega),aK,aK,D,D,show(u8s (rec g p)).toArray[i]? = (u8s (rec g p))[i]? by simp];unfold rec;rw[fH,fH];have I:(u8s ((body p).take 56)).length=56:=by rw[aK,jv,hb];rfl
 by_cases h1:i<56
 ·rw[jQ (by omega),jQ (by omega),jy (by omega),mG,List.getElem?_take,jP h1];simp
 ·rw[jx (by omega),I];by_cases h2:i<60
  ·rw[jQ (by omega),jP (by omega),jy (by rw[aK,D];omega)]
  ·rw[jx (by rw[aK,D];omega),aK,D];by_cases h3:i<64
   ·rw[jP (by omega),show i-56-4=i-60 by omega]
   ·rw[jQ (by omega),jQ (by omega),Array.getElem?_eq_none (by rw[hs];omega),List.getElem?_eq_none (by rw[aK,D];omega)]
theorem bX{w:Wd}{g:Nat}{t:TypeId}{cs:Wa}(h:Blk w g t cs){off n:Nat}(I:off+n<=cs.size):w.there g off n:=λj D=>⟨by
 rw[h.cell,Array.getElem?_eq_getElem (by omega)];rfl,h.frozen _⟩
theorem Sn.of_blk{w:Wd}{g:Nat}{t:TypeId}{l:Wl}(h:Blk w g t (u8s l).toArray)(i n c:Nat)(J:i+n<=l.length)(I:n<=c):Sn w 1 (.slice (some ⟨g,i,none⟩) n c) n (u8s ((l.drop i).take n)):=
 ⟨_,c,rfl,I,by rw[aK,jv,List.length_drop];omega,λ_=>⟨g,i,rfl,λj u D=>by
  rw[h.cell]
  rw[mG,oW,List.getElem?_take] at D
  split at D
  ·rw[List.getElem?_drop] at D
   simpa using D
  ·cases D⟩⟩
theorem eS(b:Nat)(vs:Wv)(o:Nat)(w:Wd):Off b w (w.setCells b o vs):=
 have h:=aU (ja b) vs o w
 ⟨h.1.os,h.1.tape,h.1.output,by rw[h.2];exact ja _,λk _ D=>bF D vs o w⟩
theorem Sn.offAt{w w':Wd}{b g i n c s:Nat}{J:Wv}(h:Sn w s (.slice (some ⟨g,i,none⟩) n c) n J)(U:Off b w w')(I:g≠b):Sn w' s (.slice (some ⟨g,i,none⟩) n c) n J:=by
 obtain⟨A,cap,hv,K,R,Z⟩:=h;refine⟨A,cap,hv,K,R,λV=>?_⟩;obtain⟨b1,off,rfl,D⟩:=Z V;injection hv with hA _ _
 injection hA with hA
 injection hA with h1 h2 _
 subst h1 h2;exact⟨g,i,rfl,λj u O=>U.cell (D j u O) I⟩
attribute [irreducible] body rec
theorem t6(g:Nat)(vb:Value)(p:Wl)(w:Wd)(hs:Sn w 1 vb p.length (u8s p))(hb:Bys p)(hp:p.length<=54)(hg:g<4294967296):
  Wc 160 #[.int .u32 g,vb] w (Rt w (.tuple #[.agg (u8s (rec g p)).toArray,.bool true])):=by
 obtain⟨A,cap,rfl,n2,_,_⟩:=id hs;have HS:=jz hs;have HB:=jz hb;have n1:=jz hp;have n3:¬(54:Int)<p.length:=by omega
 have a9:=mM p hp;have e8:(u8s (body p)).length=64:=by rw[aK,a9]
 have HG:=jz hg;have d5:Bw w (w.alloc (.cells z64 195)):=(by repeat (first|exact ji _ _|assumption|refine dG ?_ _|refine Below.setCell ?_ (by first|exact ja _|assumption|omega|(simp <;> omega)) _|refine Below.alloc ?_ (by first|exact ja _|assumption|omega|(simp <;> omega)) _));have d1:=Blk.new w 195 z64;have f5:=jz (HS.alloc (.cells z64 195));have h9:(w.alloc (.cells z64 195)).heap.size=w.heap.size+1:=by simp
 clear hs hb hg;go_enter func160,ntmps160
 go_wp2_with (refine al 195 z64 rfl rfl dH ?_)
 obtain⟨w1,k0⟩:=je (w.alloc (.cells z64 195));rw[<- k0] at d5 d1 f5 h9 ⊢;clear k0;refine(iI 2 p.length w1 (by omega) (by omega) (by omega)).mono ?_;rintro e w2 ⟨vv,rfl,J,a7⟩;obtain⟨g2,c2,e2,_⟩:=J.form (by omega);subst e2;have b7:=aB d5 a7;have f9:=d1.keep a7;have b2:Hid (Parts (w2.alloc (.cells #[(.slice (some ⟨g2,0,none⟩) 2 c2),.slice A p.length cap] 60)) (.slice (some ⟨w2.heap.size,0,none⟩) 2 2) [((.slice (some ⟨g2,0,none⟩) 2 c2),beB 2 p.length),(.slice A p.length cap,p)]):=jz ⟨Sn.new w2 #[(.slice (some ⟨g2,0,none⟩) 2 c2),.slice A p.length cap] 60 1 2 rfl,λq hq=>by
  simp only[jl,j8,or_false] at hq
  rcases hq with rfl|rfl
  ·have:=(Sn.own J).alloc (.cells #[(.slice (some ⟨g2,0,none⟩) 2 c2),.slice A p.length cap] 60)
   rw[bE]
   exact this
  ·exact(f5.below a7).alloc _⟩
 have e4:Bw w2 (w2.alloc (.cells #[(.slice (some ⟨g2,0,none⟩) 2 c2),.slice A p.length cap] 60)):=(ji _ _).alloc (ja _) _;have c4:cat [((.slice (some ⟨g2,0,none⟩) 2 c2),beB 2 p.length),(.slice A p.length cap,p)]=beB 2 p.length++p:=by simp[cat]
 have c9:d9 [((.slice (some ⟨g2,0,none⟩) 2 c2),beB 2 p.length),(.slice A p.length cap,p)]=(beB 2 p.length++p).length:=by simp[d9]
 have V:=jz (And.intro c4 c9);have e6:(beB 2 p.length++p).length<=64:=by rw[jj,bE];omega
 clear c4 c9;go_wp2_with fail
 refine(kV _ [((.slice (some ⟨g2,0,none⟩) 2 c2),beB 2 p.length),(.slice A p.length cap,p)] _ b2 (by simp) (by rw[V.out.2];omega)).mono ?_;rintro e w3 ⟨v3,rfl,K,d7⟩;rw[V.out.1,V.out.2] at K;have b9:=aB b7 (aB e4 d7);have g0:=(f9.keep e4).keep d7;have f6:=jz (Sn.own K);clear K d7 e4 f9 b7 b2 J a7 d1 d5;go_wp2_with fail
 refine(AS v3 (beB 2 p.length++p) w3 f6 e6).mono ?_;rintro e I ⟨rfl,e0⟩;have a2:=aB b9 e0;have d2:=g0.keep e0;have a3:pad (beB 2 p.length++p)=body p:=by unfold body;rfl
 rw[a3];have n7:IntKind.u64.wrap (g:Int)=g:=IntWalk.u64_in _ (by have:=HG.out;omega);have h1:=dL (body p);have k2:z64.size=(u8s (body p)).toArray.size:=by rw[cT];simp[e8]
 clear b9 e0 g0 a3 f6;go_wp2_with (first
  | (refine al 195 z64 rfl rfl dH ?_)
  | (refine bQ 195 (.tmp 6) (.tmp 22) rfl rfl rfl rfl (by simp only[js,e8];kernel_rfl) k2 h1 ?_;intro wM g1 e3 m9))
 have m6:g<256 ^ 4:=by have:=HG.out;omega
 refine(iI 4 g wM (by omega) (by omega) m6).mono ?_;rintro e U ⟨vv,rfl,D,a8⟩;obtain⟨R,Z,e5,_⟩:=D.form (by omega);subst e5;have n6:=a2.size;have d0:Hid (Blk U I.heap.size 195 (u8s (body p)).toArray):=jz (Blk.keep g1 a8);have k3:Hid (Blk U w.heap.size 195 z64):=jz ((d2.keep e3).keep a8);have g8:=aB (aB a2 e3) a8;have f7:=jz (Sn.own D);have a5:(u8s (body p)).toArray.size=64:=by simp[e8]
 have h6:w.heap.size≠I.heap.size:=by have:=d2.lt;omega
 have c5:w.heap.size<=I.heap.size:=by omega
 have h5:R≠I.heap.size:=by
  have:=D.lt R rfl;omega
 clear g1 d2 e3 a8 D a2 h1 k2 m9;have f2:Hid (Parts (U.drew.alloc (.cells #[.slice (some ⟨I.heap.size,0,none⟩) 56 64,(.slice (some ⟨R,0,none⟩) 4 Z)] 60)) (.slice (some ⟨U.drew.heap.size,0,none⟩) 2 2) [(.slice (some ⟨I.heap.size,0,none⟩) 56 64,(body p).take 56),((.slice (some ⟨R,0,none⟩) 4 Z),beB 4 g)]):=jz ⟨Sn.new U.drew #[.slice (some ⟨I.heap.size,0,none⟩) 56 64,(.slice (some ⟨R,0,none⟩) 4 Z)] 60 1 2 rfl,λq hq=>by
  simp only[jl,j8,or_false] at hq
  rcases hq with rfl|rfl
  ·have:=Sn.of_blk (d0.drewN 1) 0 56 64 (by rw[a9];omega) (by omega)
   have h2:=this.alloc (.cells #[.slice (some ⟨I.heap.size,0,none⟩) 56 64,(.slice (some ⟨R,0,none⟩) 4 Z)] 60)
   simp only[List.drop_zero] at h2
   simp only[jv,a9]
   exact h2
  ·simp only[bE]
   exact Sn.alloc (w:=U.drew) f7 _⟩
 have f3:Hid (∀ q∈[(Value.slice (some ⟨I.heap.size,0,none⟩) 56 64,(body p).take 56),((.slice (some ⟨R,0,none⟩) 4 Z),beB 4 g)],Bys q.2):=jz (λq hq=>by
  simp only[jl,j8,or_false] at hq
  rcases hq with rfl|rfl
  ·exact λb hb=>BG HB b (j7 hb)
  ·exact fR _ _)
 have f4:Hid (∀ q∈[(Value.slice (some ⟨I.heap.size,0,none⟩) 56 64,(body p).take 56),((.slice (some ⟨R,0,none⟩) 4 Z),beB 4 g)],q.2.length<64):=jz (λq hq=>by
  simp only[jl,j8,or_false] at hq
  rcases hq with rfl|rfl
  ·simp only[jv,a9];omega
  ·simp only[bE];omega)
 have f0:Hid (cat [(Value.slice (some ⟨I.heap.size,0,none⟩) 56 64,(body p).take 56),((.slice (some ⟨R,0,none⟩) 4 Z),beB 4 g)]=(body p).take 56++beB 4 g):=jz (by simp[cat]);have f1:=jz (xM ((body p).take 56++beB 4 g));have m4:IntKind.u64.wrap (cD ((body p).take 56++beB 4 g):Int)=(cD ((body p).take 56++beB 4 g):Int):=IntWalk.u64_in _ (by have:=f1.out;omega);have n4:=d0.lt;go_wp2_with fail
 refine cC 8 (λ_=>True) (by kernel_rfl) (by kernel_rfl) (trivial) (λhH=>?_);refine jT 0 (.slice 195 (.tmp 6) (some (.const (.int .i64 56))) none none) (some 27) (.slice (some ⟨I.heap.size,56,none⟩) 8 8) hH ?_;simp only[jq];refine jT 1 (.slice 195 (.tmp 6) none (some (.const (.int .i64 56))) none) (some 28) (.slice (some ⟨I.heap.size,0,none⟩) 56 64) hH ?_;simp only[jq];refine jM 2 (.tmp 8) (some 29) (.slice (some ⟨R,0,none⟩) 4 Z) hH ?_;simp only[jq];refine jW [3] ?_;refine jS 3 (.buildSlice 179 2 #[(0,.tmp 28),(1,.tmp 29)]) (some 30) (.slice (some ⟨U.drew.heap.size,0,none⟩) 2 2) (U.drew.alloc (.cells #[.slice (some ⟨I.heap.size,0,none⟩) 56 64,.slice (some ⟨R,0,none⟩) 4 Z] 60)) trivial ?_ jN;simp only[jq];refine jW [4] ?_;refine jC 4 (.call { callee:=.value (.func 207),args:=#[.tmp 30],argTypes:=#[179] }) (some 31) 207 (#[.slice (some ⟨U.drew.heap.size,0,none⟩) 2 2]) ?_ jN;refine(yZ _ [(.slice (some ⟨I.heap.size,0,none⟩) 56 64,(body p).take 56),(.slice (some ⟨R,0,none⟩) 4 Z,beB 4 g)] _ f2 (by simp) f3 f4).mono ?_;rintro e w6 ⟨rfl,h0⟩;rw[f0.out];refine⟨_,rfl,trivial,λhH=>?_⟩;simp only[jq];refine jT 5 (.convert 34 181 (.tmp 31)) (some 32) (.int .u64 (cD ((body p).take 56++beB 4 g))) hH ?_;simp only[jq];refine jW [6] ?_;refine jC 6 (.call { callee:=.value (.func 206),args:=#[.const (.int .i64 4),.tmp 32],argTypes:=#[3,181] }) (some 33) 206 (#[.int .i64 4,.int .u64 (cD ((body p).take 56++beB 4 g))]) ?_ jN;refine(iI 4 (cD ((body p).take 56++beB 4 g)) w6 (by omega) (by omega) f1).mono ?_;rintro e w7 ⟨vc,rfl,a4,h3⟩;refine⟨_,rfl,trivial,λhH=>?_⟩;simp only[jq];have O:Bw U w7:=aB (aB (((ji U.heap.size U).drew).alloc (ja _) (.cells #[.slice (some ⟨I.heap.size,0,none⟩) 56 64,.slice (some ⟨R,0,none⟩) 4 Z] 60)) h0) h3;have d3:=d0.keep O;have c6:=bX d3 (by rw[a5];exact(by omega:56+4<=64));refine jW [7] ?_;refine TG (sT:=60) 7 (.tmp 27) (.tmp 33) (some 34) (by kernel_rfl) (by kernel_rfl) (by exact rfl) (by exact rfl) underlying60 (by kernel_rfl) (Sn.own a4) (by omega) c6 (cI _) trivial ?_ jN;simp only[jq];refine wpAnyH_done (by kernel_rfl) ?_ _;have f8:=k3.keep O;have g3:=f7.below O;have c3:=aB g8 O;clear h0 h3 a4 c6 f2 f3 f4 f0 m4;have b0:=eS I.heap.size (u8s (beB 4 (cD ((body p).take 56++beB 4 g)))) 56 w7;have a6:=dM (u8s (beB 4 (cD ((body p).take 56++beB 4 g)))) 56 w7 _ d3;have a0:=b0.blk f8 h6;have a1:=g3.offAt b0 h5;have e1:=c3.trans (aU c5 (u8s (beB 4 (cD ((body p).take 56++beB 4 g)))) 56 w7).1;obtain⟨w8,k1⟩:=je (w7.setCells I.heap.size 56 (u8s (beB 4 (cD ((body p).take 56++beB 4 g)))));rw[<- k1] at b0 a6 a0 a1 e1 ⊢;clear k1 b0 d3 f8 g3 c3;have c7:=bX a6 (off:=60) (n:=4) (by rw[lK,a5];exact(by omega:60+4<=64));have h7:=eS I.heap.size (u8s (beB 4 g)) 60 w8;have d4:=dM (u8s (beB 4 g)) 60 w8 _ a6;rw[QK g p hp] at d4;have b3:=h7.blk a0 h6;have h4:=e1.trans (aU c5 (u8s (beB 4 g)) 60 w8).1;have e7:=d4.range;rw[jt] at e7;have b1:(u8s (rec g p)).length=64:=by rw[aK,iS g p hp]
 have n0:z64.size=(u8s (rec g p)).toArray.size:=by rw[cT];simp[b1]
 have m8:=dL (rec g p);have m5:=cI (beB 4 g);have k4:=jz b3;have k6:=jz e7;have m1:=jz c7;have k7:=jz a1;have k5:=jz h4;clear d4 b3 e7 c7 a1 h4 h7 a6 a0 e1;go_wp2_with (first
  | (refine cp (.tmp 35) (.tmp 36) rfl rfl rfl rfl underlying60 (by kernel_rfl) k7 (by omega) m1 m5 ?_)
  | (refine ld 195 _ rfl rfl rfl k6 underlying195 rfl (by rw[b1];kernel_rfl) ?_)
  | (refine aN 195 (.tmp 4) (.tmp 38) rfl rfl rfl rfl k4 (by simp only[js,b1];kernel_rfl) n0 m8 ?_;intro wZ m2 m3 _ _))
 have h8:=m2.range;rw[jt] at h8;refine bodyPost_ret (aD rfl _ rfl h8 underlying195 rfl (by rw[b1];kernel_rfl)) rfl ⟨rfl,k5.trans m3⟩
def BH(l:Wl):Bool:=l.all λc=>decide (c=0)
def prs(s:Wl):Option (Nat×Wl):=
 if 54<beN (s.take 2) then none
 else if !BH ((s.drop (2+beN (s.take 2))).take (54-beN (s.take 2))) then none
 else if beN ((s.drop 56).take 4)≠cD (s.take 56++s.drop 60) then none
 else some (beN ((s.drop 60).take 4),(s.drop 2).take (beN (s.take 2)))
theorem RD.alloc{w:Wd}{r:Nat}{v:Value}{I:Wl}{D:Bool}(h:RD w r v I D)(o:Obj):RD (w.alloc o) r v I D:=⟨h.1.alloc o,h.2.alloc o⟩
theorem RD.keep{w w':Wd}{r:Nat}{v:Value}{I:Wl}{D:Bool}(h:RD w r v I D)(hb:Bw w w'):RD w' r v I D:=⟨Blk.keep h.1 hb,h.2.below hb⟩
theorem L7(w:Wd){g:Nat}(s:Wl)(I:s.length=64)(D:Blk w g 195 (u8s s).toArray):
  Parts (w.alloc (.cells #[.slice (some ⟨g,0,none⟩) 56 64,.slice (some ⟨g,60,none⟩) 4 4] 60)) (.slice (some ⟨w.heap.size,0,none⟩) 2 2) [(.slice (some ⟨g,0,none⟩) 56 64,s.take 56),(.slice (some ⟨g,60,none⟩) 4 4,s.drop 60)]:=
 ⟨Sn.new w #[.slice (some ⟨g,0,none⟩) 56 64,.slice (some ⟨g,60,none⟩) 4 4] 60 1 2 rfl,λq J=>by
  simp only[jl,j8,or_false] at J
  rcases J with rfl|rfl
  ·have:=(Sn.of_blk D 0 56 64 (by omega) (by omega)).alloc (.cells #[.slice (some ⟨g,0,none⟩) 56 64,.slice (some ⟨g,60,none⟩) 4 4] 60)
   rw[List.drop_zero] at this
   simp only[jv,I]
   exact this
  ·have:=(Sn.of_blk D 60 4 4 (by omega) (by omega)).alloc (.cells #[.slice (some ⟨g,0,none⟩) 56 64,.slice (some ⟨g,60,none⟩) 4 4] 60)
   rw[List.take_of_length_le (by rw[List.length_drop];omega)] at this
   simp only[List.length_drop,I]
   exact this⟩
theorem JF{w w':Wd}{g b r:Nat}{s:Wl}{v:Value}{D:Bool}{A:Option Addr}{k cap:Nat}(h:Parts w (.slice (some ⟨b,0,none⟩) 2 2) [(.slice (some ⟨g,0,none⟩) 56 64,s.take 56),(.slice (some ⟨g,60,none⟩) 4 4,s.drop 60)])(_:Blk w g 195 (u8s s).toArray)(J:Blk w r 263 #[v,.bool D])(O:v = .slice A k cap)(I:Off r w w')(_:g≠r)(hb:b≠r):
  Parts w' (.slice (some ⟨b,0,none⟩) 2 2) [(.slice (some ⟨g,0,none⟩) 56 64,s.take 56),(.slice (some ⟨g,60,none⟩) 4 4,s.drop 60)]:=
 ⟨h.row.offAt I hb,λq K=>(h.part q K).offB J O I⟩
theorem rO(s:Wl)(w:Wd)(hl:s.length=64)(hb:Bys s):
    Wc 203 #[.agg (u8s s).toArray] w λe w'=>Bw w w' /\
      ((prs s = none /\ e = .returned (.tuple #[.int .u32 0, .slice none 0 0, .bool false])) \/
       (∃ g p v,prs s=some (g,p)/\e = .returned (.tuple #[.int .u32 g,v,.bool true])/\Sn w' 1 v p.length (u8s p))):=by
  have q3:(u8s s).length=64:=by rw[aK,hl]
  obtain⟨w1,d7⟩:=je (w.alloc (.cells (u8s s).toArray 195));have f6:Blk w1 w.heap.size 195 (u8s s).toArray:=by rw[d7];exact Blk.new _ _ _
  have f8:Bw w w1:=by rw[d7];exact(by repeat (first|exact ji _ _|assumption|refine dG ?_ _|refine Below.setCell ?_ (by first|exact ja _|assumption|omega|(simp <;> omega)) _|refine Below.alloc ?_ (by first|exact ja _|assumption|omega|(simp <;> omega)) _))
  have d0:Sn w1 1 (.slice (some ⟨w.heap.size,0,none⟩) 64 64) s.length (u8s s):=by
    have:=Sn.of_blk f6 0 64 64 (by omega) (by omega);rw[List.drop_zero,List.take_of_length_le (by omega)] at this;rw[hl];exact this
  have k4:=jz d0;have h3:=jz f6;have a7:=jz hb;have I:=jz hl;clear d0 f6 hb hl;go_enter func203,ntmps203
  go_wp2_with fail
  refine wp_scope_jumps 0 (λa w'=>Bw w w'/\prs s=none/\∃ u0 u1 u2 u3 u4 u5 u6 u7 u8 u9 u10 u11 u12 u13 u14 u15 u16 u17 u18 u19 u20 u21 u22 u23 u24 u25 u26 u27 u28 u29 u30 u31 u32 u33 u34 u35 u36 u37 u38 u39 u40 u41 u42 u43:Value,a={ tmps:=#[u0,u1,u2,u3,u4,u5,u6,u7,u8,u9,u10,u11,u12,u13,u14,u15,u16,u17,u18,u19,u20,u21,u22,u23,u24,u25,u26,u27,u28,u29,u30,u31,u32,u33,u34,u35,u36,u37,u38,u39,u40,u41,u42,u43],defers:=[] }) (λ_ _=>0) rfl ?first ?pass
  case pass=>
    rintro a wj ⟨m3,m6,u0,u1,u2,u3,u4,u5,u6,u7,u8,u9,u10,u11,u12,u13,u14,u15,u16,u17,u18,u19,u20,u21,u22,u23,u24,u25,u26,u27,u28,u29,u30,u31,u32,u33,u34,u35,u36,u37,u38,u39,u40,u41,u42,u43,rfl⟩;have HJ:=jz (And.intro m3 m6);clear m3 m6;go_wp2_with fail
    simp only[Exit.jump]
    go_ret3
    exact⟨HJ.out.1,.inl ⟨HJ.out.2,rfl⟩⟩
  go_wp2_with fail
  rw[<- d7];clear d7;refine(AP _ s w1 k4 (by rw[I.out];omega)).mono ?_;rintro e w2 ⟨r,v,rfl,hR,hr,f9⟩;have b7:=aB f8 f9;have e7:=jz (h3.keep f9);have p7:=f8.size;have a2:w.heap.size<=r:=by omega
  clear f9 hr h3 k4 f8;have HR:=jz hR;clear hR;go_wp2_with fail
  refine(gA r v s false 2 w2 HR a7 (by rw[I.out];omega) (by omega) (by omega)).mono ?_;rintro e w3 ⟨g2,⟨_,_,v3,rfl,m1⟩|⟨D,_,_⟩⟩
  rotate_left 1
  · exfalso
    rcases D with h|h
    · cases h
    · rw[I.out] at h;omega
  have a6:Bw w w3:=b7.trans (g2.below a2 b7.size);have c9:w.heap.size≠r:=by have:=e7.out;intro e;subst e;have h1:=HR.out.1;unfold Blk at h1 this;rw[this] at h1;injection h1 with h1;injection h1 with h1 h2 _;exact absurd h2 (by decide)
  have h4:=jz (g2.blk e7 c9);obtain⟨n,hn⟩:=je (beN (s.take 2));have n7:n<65536:=by
    rw[hn];have:=mI (s.take 2) (λb hb=>a7.out b (j7 hb));rw[jv,I.out] at this;exact this
  rw[<- hn];have HN:=jz hn;have k0:=jz m1;clear hn m1 g2 b7 e7 HR;rcases jb (decide ((54:Int)<n)) with t1|t1
  · go_wp2_with fail
    go_step3
    simp only[Exit.then,Exit.inBlock];refine⟨rfl,a6,?_,?_⟩
    · unfold prs;rw[<- HN.out,jP (by have:=of_decide_eq_true t1;omega)]
    · iterate 44 apply Exists.intro
      rfl
  · have p6:n<=54:=by have:=of_decide_eq_false t1;omega
    have hm:(54:Int)-n=((54-n:Nat):Int):=by omega
    have m5:(s.drop 2).length=62:=by rw[List.length_drop,I.out]
    have b0:=jz m5;clear m5;go_wp2_with fail
    refine(GN r v3 (s.drop 2) false n w3 k0 (by rw[b0.out];omega) (by omega)).mono ?_;rintro e w4 ⟨g3,⟨_,_,x4,v4,rfl,m9,m2⟩|⟨D,_,_⟩⟩
    rotate_left 1
    · exfalso
      rcases D with h|h
      · cases h
      · rw[b0.out] at h;omega
    have b9:Bw w w4:=a6.trans (g3.below a2 a6.size);have h5:=jz (g3.blk h4 c9);have k2:=jz m9;have d2:=jz m2;have f0:Hid (((s.drop 2).drop n).length=62-n):=jz (by rw[List.length_drop,b0.out]);clear m9 m2 g3 a6 k0 h4;go_wp2_with fail
    refine(GN r v4 ((s.drop 2).drop n) false (54-n) w4 d2 (by rw[f0.out];omega) (by omega)).mono ?_;rintro e w5 ⟨d4,⟨_,_,x5,v5,rfl,d5,V⟩|⟨D,_,_⟩⟩
    rotate_left 1
    · exfalso
      rcases D with h|h
      · cases h
      · rw[f0.out] at h;omega
    have c2:Bw w w5:=b9.trans (d4.below a2 b9.size);have n1:=jz (d4.blk h5 c9);obtain⟨A5,c5,e5,p9,_,_⟩:=id d5;subst e5;have f2:=jz d5;obtain⟨A4,c4,e4,_,_,_⟩:=id d2.out.2;have k3:Hid (Sn w5 1 x4 n (u8s ((s.drop 2).take n))):=jz (k2.offB d2.out.1 e4 d4);have n2:=jz V;have hz:((s.drop 2).drop n).take (54-n)=(s.drop (2+n)).take (54-n):=by rw[List.drop_drop]
    rw[hz] at f2 d5;have g8:((s.drop (2+n)).take (54-n)).length=54-n:=by rw[jv,List.length_drop,I.out];omega
    obtain⟨z,e0⟩:=je ((s.drop (2+n)).take (54-n));have n0:Bys z:=by rw[e0];exact λb hb=>a7.out b (List.mem_of_mem_drop (j7 hb))
    rw[<- e0] at f2 g8;have HZ:=jz e0;have p8:=jz n0;have k5:=jz g8;clear d5 hz e0 n0 g8 V d4 e4 b9 h5 k2 d2 f0;go_wp2_with fail
    go_loopw [25] (λi wr=>∃ k:Nat,k<=54-n/\i = .int .i64 k/\Hid (∀ c∈z.take k,c=0)/\wr=w5) (λi _=>(54-n)-(intOf i).toNat)
    case atStart=>exact⟨0,j0 _,rfl,jz (by simp),rfl⟩
    case round=>
      obtain⟨k,hk,rfl,d1,hw⟩:=hrel;rw[hw];clear hw;by_cases hlt:k<54-n
      · obtain⟨A',n6,hA,_,_,c3⟩:=f2.out;injection hA with hA _ hcp
        subst hA hcp;obtain⟨b,off,rfl,hr⟩:=c3 (by omega);have g1:k<z.length:=by rw[k5.out];exact hlt
        have hc:=hr k _ (oX z k g1);have d0:Hid (z[k]=0->∀ c∈z.take (k+1),c=0):=jz (λh0 c hc=>by
          rw[j6 g1,ju] at hc
          rcases hc with hc|hc
          · exact d1 c hc
          · obtain rfl:c=z[k]:=by simpa using hc
            exact h0)
        have m8:Hid (z[k]≠0->BH z=false):=jz (λh0=>by
          unfold BH
          rw[List.all_eq_false]
          exact⟨z[k],List.getElem_mem g1,by simpa using h0⟩)
        obtain⟨c,m4⟩:=je (z[k]);rw[<- m4] at hc d0 m8;have q1:(0:Int)<=k:=by omega
        have q2:(k:Int)<((54-n:Nat):Int):=by omega
        clear hr c3 m4 d1;rcases jb (c != 0) with t2|t2
        · go_wp2_with fail
          go_step3
          simp only[Exit.then,Exit.inBlock];refine⟨rfl,c2,?_,?_⟩
          · unfold prs;rw[<- HN.out,jQ (by omega),jP ?_];rw[<- HZ.out,m8.out (by simpa using t2)];rfl
          · iterate 44 apply Exists.intro
            rfl
        · go_wp2_with fail
          exact⟨⟨k+1,by omega,by go_num,jz (d0 (by simpa using t2)),by trivial⟩,by simp[intOf];omega⟩
      · obtain rfl:k=54-n:=by omega
        rw[List.take_of_length_le (by rw[k5.out];exact ja _)] at d1;have d3:Hid (BH ((s.drop (2+n)).take (54-n))=true):=jz (by
          rw[<- HZ.out]
          unfold BH
          rw[List.all_eq_true]
          exact λc hc=>by simpa using d1.out c hc)
        have e2:((s.drop 2).drop n).drop (54-n)=s.drop 56:=by rw[List.drop_drop,List.drop_drop];congr 1;omega
        have V:=n2.out;rw[e2] at V;have U:Hid (RD w5.drew r v5 (s.drop 56) false):=jz V;obtain⟨A7,c7,f5,_,_,_⟩:=id V.2;have a9:Hid (Blk w5.drew w.heap.size 195 (u8s s).toArray):=jz n1.out;have b1:Hid (Sn w5.drew 1 x4 n (u8s ((s.drop 2).take n))):=jz k3.out;have K:Hid (Bw w w5.drew):=jz c2.drew;have k1:Hid (r<w5.heap.size):=jz V.1.lt;have a4:Hid ((s.drop 56).length=8):=jz (by rw[List.length_drop,I.out]);have J:Hid ((s.drop 60).length=4):=jz (by rw[List.length_drop,I.out]);have a5:Hid ((s.drop 56).drop 4=s.drop 60):=jz (by rw[List.drop_drop]);have h6:Hid (Bys (s.drop 56)):=jz (λb hb=>a7.out b (List.mem_of_mem_drop hb));have a3:Hid (Bys (s.drop 60)):=jz (λb hb=>a7.out b (List.mem_of_mem_drop hb));have e1:Hid (beN ((s.drop 60).take 4)<4294967296):=jz (by
          have:=mI ((s.drop 60).take 4) (λb hb=>a3.out b (j7 hb))
          rw[jv,J.out] at this
          exact this)
        have h8:Hid (∀ q∈[(Value.slice (some ⟨w.heap.size,0,none⟩) 56 64,s.take 56),(Value.slice (some ⟨w.heap.size,60,none⟩) 4 4,s.drop 60)],Bys q.2):=jz (λq hq=>by
          simp only[jl,j8,or_false] at hq
          rcases hq with rfl|rfl
          · exact λb hb=>a7.out b (j7 hb)
          · exact a3)
        have h9:Hid (∀ q∈[(Value.slice (some ⟨w.heap.size,0,none⟩) 56 64,s.take 56),(Value.slice (some ⟨w.heap.size,60,none⟩) 4 4,s.drop 60)],q.2.length<64):=jz (λq hq=>by
          simp only[jl,j8,or_false] at hq
          rcases hq with rfl|rfl
          · simp only[jv,I.out];omega
          · simp only[J.out];omega)
        have h7:Hid (cat [(Value.slice (some ⟨w.heap.size,0,none⟩) 56 64,s.take 56),(Value.slice (some ⟨w.heap.size,60,none⟩) 4 4,s.drop 60)]=s.take 56++s.drop 60):=jz (by simp[cat]);have n3:=jz (xM (s.take 56++s.drop 60));have q0:IntKind.u64.wrap (cD (s.take 56++s.drop 60):Int)=(cD (s.take 56++s.drop 60):Int):=IntWalk.u64_in _ (by have:=n3.out;omega);clear V e2 d1 c2;go_wp2_with fail
        refine cC 8 (λ_=>True) (by kernel_rfl) (by kernel_rfl) (trivial) (λhH=>?_);refine jM 0 (.tmp 6) (some 32) (.pointer (some ⟨r,0,none⟩)) hH ?_;simp only[jq];refine jT 2 (.slice 195 (.tmp 1) none (some (.const (.int .i64 56))) none) (some 34) (.slice (some ⟨w.heap.size,0,none⟩) 56 64) hH ?_;simp only[jq];refine jT 3 (.slice 195 (.tmp 1) (some (.const (.int .i64 60))) none none) (some 35) (.slice (some ⟨w.heap.size,60,none⟩) 4 4) hH ?_;simp only[jq];refine jW [1,4] ?_;refine jC 1 (.call { callee:=.value (.func 112),args:=#[.tmp 32,.const (.int .i64 4)],argTypes:=#[209,3] }) (some 33) 112 (#[.pointer (some ⟨r,0,none⟩),.int .i64 4]) ?_ ?_
        rotate_left 1
        · refine jS 4 (.buildSlice 179 2 #[(0,.tmp 34),(1,.tmp 35)]) (some 36) (.slice (some ⟨w5.drew.heap.size,0,none⟩) 2 2) (w5.drew.alloc (.cells #[.slice (some ⟨w.heap.size,0,none⟩) 56 64,.slice (some ⟨w.heap.size,60,none⟩) 4 4] 60)) trivial ?_ jN;simp only[jq];refine jW [1] ?_;refine jC 1 (.call { callee:=.value (.func 112),args:=#[.tmp 32,.const (.int .i64 4)],argTypes:=#[209,3] }) (some 33) 112 (#[.pointer (some ⟨r,0,none⟩),.int .i64 4]) ?_ jN;refine(gA r v5 (s.drop 56) false 4 (w5.drew.alloc (.cells #[.slice (some ⟨w.heap.size,0,none⟩) 56 64,.slice (some ⟨w.heap.size,60,none⟩) 4 4] 60)) (U.alloc _) h6 (by rw[a4.out];omega) (by omega) (by omega)).mono ?_;rintro e w6 ⟨R,⟨_,_,v6,rfl,b2⟩|⟨D,_,_⟩⟩
          rotate_left 1
          · exact absurd D (by rw[a4.out];simp)
          refine⟨_,rfl,trivial,λhH=>?_⟩;simp only[jq];have k7:=L7 w5.drew s I a9.out;have f1:=jz (JF k7 (a9.alloc (.cells #[.slice (some ⟨w.heap.size,0,none⟩) 56 64,.slice (some ⟨w.heap.size,60,none⟩) 4 4] 60)) (U.alloc (.cells #[.slice (some ⟨w.heap.size,0,none⟩) 56 64,.slice (some ⟨w.heap.size,60,none⟩) 4 4] 60)).1 f5 R c9 (by have:=k1.out;show w5.heap.size≠r;omega));have b3:=(b1.alloc (.cells #[.slice (some ⟨w.heap.size,0,none⟩) 56 64,.slice (some ⟨w.heap.size,60,none⟩) 4 4] 60)).offB (U.alloc (.cells #[.slice (some ⟨w.heap.size,0,none⟩) 56 64,.slice (some ⟨w.heap.size,60,none⟩) 4 4] 60)).1 f5 R;have g0:=K.alloc K.size (.cells #[.slice (some ⟨w.heap.size,0,none⟩) 56 64,.slice (some ⟨w.heap.size,60,none⟩) 4 4] 60);have a8:Bw w w6:=g0.trans (R.below a2 g0.size);refine jW [5] ?_;refine jC 5 (.call { callee:=.value (.func 207),args:=#[.tmp 36],argTypes:=#[179] }) (some 37) 207 (#[.slice (some ⟨w5.drew.heap.size,0,none⟩) 2 2]) ?_ jN;refine(yZ _ [(.slice (some ⟨w.heap.size,0,none⟩) 56 64,s.take 56),(.slice (some ⟨w.heap.size,60,none⟩) 4 4,s.drop 60)] _ f1 (by simp) h8 h9).mono ?_;rintro e w7 ⟨rfl,O⟩;rw[h7.out];refine⟨_,rfl,trivial,λhH=>?_⟩;simp only[jq];refine jT 6 (.convert 34 181 (.tmp 37)) (some 38) (.int .u64 (cD (s.take 56++s.drop 60))) hH ?_;simp only[jq];refine jT 7 (.binOp .neq 181 (.tmp 33) (.tmp 38) 181) (some 39) (.bool (((beN ((s.drop 56).take 4):Nat):Int) != ((cD (s.take 56++s.drop 60):Nat):Int))) hH ?_;simp only[jq];refine wpAnyH_done (by kernel_rfl) ?_ _;have a0:=jz (b2.keep O);have f4:=jz (b3.below O);have Z:=jz (aB a8 O);clear k7 b3 a8 b2 R O g0;by_cases e3:beN ((s.drop 56).take 4)=cD (s.take 56++s.drop 60)
          rotate_left 1
          · have t3:(((beN ((s.drop 56).take 4):Nat):Int) != ((cD (s.take 56++s.drop 60):Nat):Int))=true:=bne_iff_ne.2 (by omega);rw[t3];go_wp2_with fail
            go_step3
            simp only[Exit.then,Exit.inBlock];refine⟨rfl,Z,?_,?_⟩
            · unfold prs;rw[<- HN.out,jQ (by omega),jQ (by rw[d3.out];simp),jP e3]
            · iterate 44 apply Exists.intro
              rfl
          · have t3:(((beN ((s.drop 56).take 4):Nat):Int) != ((cD (s.take 56++s.drop 60):Nat):Int))=false:=by rw[e3];exact bne_self_eq_false _
            rw[t3];have n4:IntKind.u32.wrap (beN ((s.drop 60).take 4):Int)=(beN ((s.drop 60).take 4):Int):=IntWalk.u32_in _ (by have:=e1.out;omega);go_wp2_with fail
            refine(gA r v6 (s.drop 60) false 4 w7 (by have:=a0.out;rw[a5.out] at this;exact this) a3 (by rw[J.out];omega) (by omega) (by omega)).mono ?_;rintro e w8 ⟨a1,⟨_,_,v8,rfl,f7⟩|⟨D,_,_⟩⟩
            rotate_left 1
            · exact absurd D (by rw[J.out];simp)
            obtain⟨A6,c6,e6,_,_,_⟩:=id a0.out.2;have f3:=jz (f4.offB a0.out.1 e6 a1);have e8:Hid (Bw w w8):=jz (Z.trans (a1.below a2 Z.size));clear a1 f7 e6;go_wp2_with fail
            simp only[Exit.jump]
            go_ret3
            refine⟨e8,.inr ⟨_,(s.drop 2).take n,x4,?_,rfl,?_⟩⟩
            · unfold prs;rw[<- HN.out,jQ (by omega),jQ (by rw[d3.out];simp),jQ (λh=>h e3)]
            · have:=f3.out;rw[jv,b0.out,Nat.min_eq_left (by omega)];exact this
        · refine(gA r v5 (s.drop 56) false 4 w5.drew U h6 (by rw[a4.out];omega) (by omega) (by omega)).mono ?_;rintro e w6 ⟨R,⟨_,_,v6,rfl,b2⟩|⟨D,_,_⟩⟩
          rotate_left 1
          · exact absurd D (by rw[a4.out];simp)
          refine⟨_,rfl,trivial,λhH=>?_⟩;simp only[jq];have k6:=R.blk a9 c9;have b3:=b1.offB U.out.1 f5 R;have a8:Bw w w6:=K.trans (R.below a2 K.size);refine jW [4] ?_;refine jS 4 (.buildSlice 179 2 #[(0,.tmp 34),(1,.tmp 35)]) (some 36) (.slice (some ⟨w6.heap.size,0,none⟩) 2 2) (w6.alloc (.cells #[.slice (some ⟨w.heap.size,0,none⟩) 56 64,.slice (some ⟨w.heap.size,60,none⟩) 4 4] 60)) trivial ?_ jN;simp only[jq];have f1:=jz (L7 w6 s I k6);refine jW [5] ?_;refine jC 5 (.call { callee:=.value (.func 207),args:=#[.tmp 36],argTypes:=#[179] }) (some 37) 207 (#[.slice (some ⟨w6.heap.size,0,none⟩) 2 2]) ?_ jN;refine(yZ _ [(.slice (some ⟨w.heap.size,0,none⟩) 56 64,s.take 56),(.slice (some ⟨w.heap.size,60,none⟩) 4 4,s.drop 60)] _ f1 (by simp) h8 h9).mono ?_;rintro e w7 ⟨rfl,O⟩;rw[h7.out];refine⟨_,rfl,trivial,λhH=>?_⟩;simp only[jq];refine jT 6 (.convert 34 181 (.tmp 37)) (some 38) (.int .u64 (cD (s.take 56++s.drop 60))) hH ?_;simp only[jq];refine jT 7 (.binOp .neq 181 (.tmp 33) (.tmp 38) 181) (some 39) (.bool (((beN ((s.drop 56).take 4):Nat):Int) != ((cD (s.take 56++s.drop 60):Nat):Int))) hH ?_;simp only[jq];refine wpAnyH_done (by kernel_rfl) ?_ _;have a0:=jz ((b2.alloc (.cells #[.slice (some ⟨w.heap.size,0,none⟩) 56 64,.slice (some ⟨w.heap.size,60,none⟩) 4 4] 60)).keep O);have f4:=jz ((b3.alloc (.cells #[.slice (some ⟨w.heap.size,0,none⟩) 56 64,.slice (some ⟨w.heap.size,60,none⟩) 4 4] 60)).below O);have Z:=jz (aB (a8.alloc a8.size (.cells #[.slice (some ⟨w.heap.size,0,none⟩) 56 64,.slice (some ⟨w.heap.size,60,none⟩) 4 4] 60)) O);clear k6 b3 a8 b2 R O;by_cases e3:beN ((s.drop 56).take 4)=cD (s.take 56++s.drop 60)
          rotate_left 1
          · have t3:(((beN ((s.drop 56).take 4):Nat):Int) != ((cD (s.take 56++s.drop 60):Nat):Int))=true:=bne_iff_ne.2 (by omega);rw[t3];go_wp2_with fail
            go_step3
            simp only[Exit.then,Exit.inBlock];refine⟨rfl,Z,?_,?_⟩
            · unfold prs;rw[<- HN.out,jQ (by omega),jQ (by rw[d3.out];simp),jP e3]
            · iterate 44 apply Exists.intro
              rfl
          · have t3:(((beN ((s.drop 56).take 4):Nat):Int) != ((cD (s.take 56++s.drop 60):Nat):Int))=false:=by rw[e3];exact bne_self_eq_false _
            rw[t3];have n4:IntKind.u32.wrap (beN ((s.drop 60).take 4):Int)=(beN ((s.drop 60).take 4):Int):=IntWalk.u32_in _ (by have:=e1.out;omega);go_wp2_with fail
            refine(gA r v6 (s.drop 60) false 4 w7 (by have:=a0.out;rw[a5.out] at this;exact this) a3 (by rw[J.out];omega) (by omega) (by omega)).mono ?_;rintro e w8 ⟨a1,⟨_,_,v8,rfl,f7⟩|⟨D,_,_⟩⟩
            rotate_left 1
            · exact absurd D (by rw[J.out];simp)
            obtain⟨A6,c6,e6,_,_,_⟩:=id a0.out.2;have f3:=jz (f4.offB a0.out.1 e6 a1);have e8:Hid (Bw w w8):=jz (Z.trans (a1.below a2 Z.size));clear a1 f7 e6;go_wp2_with fail
            simp only[Exit.jump]
            go_ret3
            refine⟨e8,.inr ⟨_,(s.drop 2).take n,x4,?_,rfl,?_⟩⟩
            · unfold prs;rw[<- HN.out,jQ (by omega),jQ (by rw[d3.out];simp),jQ (λh=>h e3)]
            · have:=f3.out;rw[jv,b0.out,Nat.min_eq_left (by omega)];exact this
theorem TY{w:Wd}{g:Nat}{t:TypeId}{q:Wl×Int}(h:Blk w g t (aO q).toArray)(J:EntOk q):Sn w 1 (.slice (some ⟨g,0,none⟩) 32 32) 32 (u8s q.1):=
 ⟨_,32,rfl,ja _,by rw[aK,J.dig.len],λ_=>⟨g,0,rfl,λj u I=>by
  rw[h.cell,Nat.zero_add]
  have D:=(List.getElem?_eq_some_iff.1 I).1
  simp only[jf,aO,cS]
  rw[jy D]
  exact I⟩⟩
theorem BI{w:Wd}{a b o:Nat}{i:Nat}{v:Value}{vs:Wv}(h:w.cell? ⟨a,i,none⟩=some v)(D:a≠b:=by omega):(w.setCells b o vs).cell? ⟨a,i,none⟩=some v:=
 (eS b vs o w).cell h D
theorem t8(g x:Nat)(q:Wl×Int)(w:Wd)(hq:EntOk q)(hx:q.2=x)(c5:x<=4611686018427387904)(hg:g<4294967296):
  Wc 180 #[.int .u32 g,.agg (aO q).toArray] w (Rt w (.tuple #[.agg (u8s (rec g (q.1++beB 8 x))).toArray,.bool true])):=by
 have HQ:=jz hq;have HG:=jz hg;have e3:=bC q hq;have a9:Hid ((q.1++beB 8 x).length=40):=jz (by rw[jj,bE,hq.dig.len]);have a2:Hid ((u8s (rec g (q.1++beB 8 x))).length=64):=jz (by rw[aK,iS g _ (by rw[a9.out];omega)]);have d0:Hid (Bys (q.1++beB 8 x)):=jz (λb hb=>by
  rcases List.mem_append.1 hb with hb|hb
  ·exact hq.dig.byte b hb
  ·exact fR _ _ b hb)
 have d4:Hid (x<256 ^ 8):=jz (by have e8:(256:Nat) ^ 8=18446744073709551616:=(by decide);omega);have d7:(0:Int)<=q.2:=by omega
 have e0:q.2<=4611686018427387904:=by omega
 have e1:IntKind.u64.wrap q.2=(x:Int):=by rw[hx];exact IntWalk.u64_in _ (by omega)
 obtain⟨w1,a0⟩:=je ((w.alloc (.cells (aO q).toArray 26)).alloc (.cells z64 195));have a3:Blk w1 w.heap.size 26 (aO q).toArray:=by rw[a0];exact(Blk.new w _ _).alloc _
 have J:Blk w1 (w.heap.size+1) 195 z64:=by rw[a0];exact Blk.newAt _ _ _ _ (by simp)
 have b7:Bw w w1:=by rw[a0];exact((ji _ w).alloc (ja _) _).alloc (by simp) _
 have a6:w1.cell? ⟨w.heap.size,32,none⟩=some (.int .i64 q.2):=by
  rw[a3.cell];have d5:(u8s q.1).length=32:=by rw[aK,hq.dig.len]
  simp only[jf,aO,cS];rw[jx (by omega),d5];rfl
 have c6:Hid (Blk w1.drew w.heap.size 26 (aO q).toArray):=jz a3;have c7:Hid (Blk w1.drew (w.heap.size+1) 195 z64):=jz J;have c9:Hid (Bw w w1.drew):=jz b7.drew;have d1:Hid (w1.drew.cell? ⟨w.heap.size,32,none⟩=some (.int .i64 q.2)):=jz a6;subst a0;clear a3 J b7 hq hg hx c5;go_enter func180,ntmps180
 go_wp2_with (refine al 195 z64 rfl rfl dH ?_)
 refine cC 14 (λw'=>w'.cell? ⟨w.heap.size,32,none⟩=some (.int .i64 q.2)) (by kernel_rfl) (by kernel_rfl) (d1) (λD=>?_);refine jM 0 (.tmp 0) (some 15) (.int .u32 g) D ?_;simp only[jq];refine jT 1 (.fieldAddr 26 (.tmp 3) 0) (some 16) (.pointer (some ⟨w.heap.size,0,none⟩)) D ?_;simp only[jq];refine jT 2 (.slice 24 (.tmp 16) none none none) (some 17) (.slice (some ⟨w.heap.size,0,none⟩) 32 32) D ?_;simp only[jq];refine jT 3 (.fieldAddr 26 (.tmp 3) 1) (some 18) (.pointer (some ⟨w.heap.size,32,none⟩)) D ?_;simp only[jq];refine jT 4 (.load 2 (.tmp 18)) (some 19) (.int .i64 q.2) D ?_;simp only[jq];refine jT 5 (.convert 2 181 (.tmp 19)) (some 20) (.int .u64 (x:Int)) D ?_;simp only[jq];refine jW [6] ?_;refine jC 6 (.call { callee:=.value (.func 206),args:=#[.const (.int .i64 8),.tmp 20],argTypes:=#[3,181] }) (some 21) 206 (#[.int .i64 8,.int .u64 x]) ?_ jN;refine(iI 8 x _ (by omega) (by omega) d4).mono ?_;rintro e w2 ⟨vv,rfl,K,V⟩;obtain⟨U,R,e2,_⟩:=K.form (by omega);subst e2;refine⟨_,rfl,j9 V D,λD=>?_⟩;simp only[jq];have J:=c6.keep V;have a1:=c7.keep V;have b1:=aB c9 V;have d2:Hid (Parts (w2.alloc (.cells #[.slice (some ⟨w.heap.size,0,none⟩) 32 32,.slice (some ⟨U,0,none⟩) 8 R] 60)) (.slice (some ⟨w2.heap.size,0,none⟩) 2 2) [(.slice (some ⟨w.heap.size,0,none⟩) 32 32,q.1),(.slice (some ⟨U,0,none⟩) 8 R,beB 8 x)]):=jz ⟨Sn.new w2 #[.slice (some ⟨w.heap.size,0,none⟩) 32 32,.slice (some ⟨U,0,none⟩) 8 R] 60 1 2 rfl,λz hz=>by
  simp only[jl,j8,or_false] at hz
  rcases hz with rfl|rfl
  ·have:=(TY J HQ).alloc (.cells #[.slice (some ⟨w.heap.size,0,none⟩) 32 32,.slice (some ⟨U,0,none⟩) 8 R] 60)
   rw[HQ.dig.len]
   exact this
  ·have:=(Sn.own K).alloc (.cells #[.slice (some ⟨w.heap.size,0,none⟩) 32 32,.slice (some ⟨U,0,none⟩) 8 R] 60)
   simp only[bE]
   exact this⟩
 have b9:cat [(Value.slice (some ⟨w.heap.size,0,none⟩) 32 32,q.1),(Value.slice (some ⟨U,0,none⟩) 8 R,beB 8 x)]=q.1++beB 8 x:=by simp[cat]
 have c3:d9 [(Value.slice (some ⟨w.heap.size,0,none⟩) 32 32,q.1),(Value.slice (some ⟨U,0,none⟩) 8 R,beB 8 x)]=(q.1++beB 8 x).length:=by simp[d9]
 have I:=jz (And.intro b9 c3);have Z:Bw w2 (w2.alloc (.cells #[.slice (some ⟨w.heap.size,0,none⟩) 32 32,.slice (some ⟨U,0,none⟩) 8 R] 60)):=(ji _ _).alloc (ja _) _;refine jW [7] ?_;refine jS 7 (.buildSlice 179 2 #[(0,.tmp 17),(1,.tmp 21)]) (some 22) (.slice (some ⟨w2.heap.size,0,none⟩) 2 2) (w2.alloc (.cells #[.slice (some ⟨w.heap.size,0,none⟩) 32 32,.slice (some ⟨U,0,none⟩) 8 R] 60)) (j9 Z D) ?_ jN;simp only[jq];replace D:=j9 Z D;refine jW [8] ?_;refine jC 8 (.call { callee:=.value (.func 127),args:=#[.tmp 22],argTypes:=#[179] }) (some 23) 127 (#[.slice (some ⟨w2.heap.size,0,none⟩) 2 2]) ?_ jN;refine(kV _ [(.slice (some ⟨w.heap.size,0,none⟩) 32 32,q.1),(.slice (some ⟨U,0,none⟩) 8 R,beB 8 x)] _ d2 (by simp) (by rw[I.out.2,jj,bE,HQ.dig.len];omega)).mono ?_;rintro e w3 ⟨v3,rfl,O,a4⟩;rw[I.out.1,I.out.2] at O;refine⟨_,rfl,j9 a4 D,λD=>?_⟩;simp only[jq];refine jW [9] ?_;refine jC 9 (.call { callee:=.value (.func 160),args:=#[.tmp 15,.tmp 23],argTypes:=#[34,60] }) (some 24) 160 (#[.int .u32 g,v3]) ?_ jN;refine(t6 g v3 (q.1++beB 8 x) w3 (Sn.own O) d0 (by rw[a9.out];omega) HG).mono ?_;rintro e w4 ⟨rfl,a5⟩;refine⟨_,rfl,j9 a5 D,λD=>?_⟩;simp only[jq];refine jT 10 (.extract (.tmp 24) 0) (some 25) (.agg (u8s (rec g (q.1++beB 8 x))).toArray) D ?_;simp only[jq];refine jT 11 (.extract (.tmp 24) 1) (some 26) (.bool true) D ?_;simp only[jq];have b2:=aB (aB (aB b1 Z) a4) a5;have b0:=((a1.keep Z).keep a4).keep a5;have a8:=bX b0 (off:=0) (n:=(u8s (rec g (q.1++beB 8 x))).length) (by rw[a2.out,cT];exact ja _);refine jW [12] ?_;refine jR 12 195 (.tmp 4) (.tmp 25) none (cs:=u8s (rec g (q.1++beB 8 x))) a8 (by rw[a2.out];kernel_rfl) (cI _) (BI D) ?_ jN;simp only[jq];replace D:=BI (b:=w.heap.size+1) (o:=0) (vs:=u8s (rec g (q.1++beB 8 x))) D;refine jT 13 (.assign (.tmp 26)) (some 5) (.bool true) D ?_;simp only[jq];refine wpAnyH_done (by kernel_rfl) ?_ _;have a7:=World.rangeAt_setCells_same w4 (w.heap.size+1) 0 (u8s (rec g (q.1++beB 8 x))) a8;have b3:=b2.trans (aU (Nat.le_succ w.heap.size) (u8s (rec g (q.1++beB 8 x))) 0 w4).1;obtain⟨w9,c4⟩:=je (w4.setCells (w.heap.size+1) 0 (u8s (rec g (q.1++beB 8 x))));rw[<- c4] at a7 b3 ⊢;clear c4 a8 b0 a1 J D;have d3:=jz a7;clear a7;go_wp2_with fail
 refine bodyPost_ret (aD rfl _ rfl d3 underlying195 rfl (by rw[a2.out];kernel_rfl)) rfl ⟨rfl,b3⟩
def toll:Wl:=[84,79,76,76]
theorem y4(g:Nat)(w:Wd)(hg:g<4294967296):
  Wc 109 #[.int .u32 g] w (Rt w (.agg (u8s (rec g toll)).toArray)):=by
 have HG:=jz hg;have D:(u8s (rec g toll)).length=64:=by rw[aK,iS g toll (by decide)]
 have h1:=dL (rec g toll);have hz:z64.size=(u8s (rec g toll)).toArray.size:=by rw[cT];simp[D]
 have O:Bw w (w.alloc (.cells z64 195)):=(by repeat (first|exact ji _ _|assumption|refine dG ?_ _|refine Below.setCell ?_ (by first|exact ja _|assumption|omega|(simp <;> omega)) _|refine Below.alloc ?_ (by first|exact ja _|assumption|omega|(simp <;> omega)) _));have U:=Blk.new w 195 z64;have I:(w.alloc (.cells z64 195)).heap.size=w.heap.size+1:=by simp
 clear hg;have a3:=λW:Wd=>Lib.run_convert_bytes_const (P:=prog) W 60 5 #[.int .u8 84,.int .u8 79,.int .u8 76,.int .u8 76] 4 4 underlying60 underlying5
 have J:=a3 (w.alloc (.cells z64 195));simp only[I] at J;clear a3;go_enter func109,ntmps109
 go_wp2_with (refine al 195 z64 rfl rfl dH ?_)
 have K:Sn ((w.alloc (.cells z64 195)).alloc (.cells #[.int .u8 84,.int .u8 79,.int .u8 76,.int .u8 76] 5 (4,5))) 1 (.slice (some ⟨w.heap.size+1,0,none⟩) 4 4) toll.length (u8s toll):=by
  refine⟨_,4,rfl,ja _,rfl,λ_=>⟨_,0,rfl,λj u hj=>?_⟩⟩;have hh:=heap_alloc_new (w.alloc (.cells z64 195)) (.cells #[.int .u8 84,.int .u8 79,.int .u8 76,.int .u8 76] 5 (4,5));rw[I] at hh;rw[cell_of_row _ _ _ _ _ _ hh,Nat.zero_add];simpa [toll,u8s] using hj
 have a2:Bw w ((w.alloc (.cells z64 195)).alloc (.cells #[.int .u8 84,.int .u8 79,.int .u8 76,.int .u8 76] 5 (4,5))):=O.alloc O.size _;have V:=U.alloc (.cells #[.int .u8 84,.int .u8 79,.int .u8 76,.int .u8 76] 5 (4,5));refine(t6 g _ toll _ K (λb hb=>by simp only[toll,jl,j8,or_false] at hb;omega) (by decide) HG).mono ?_;rintro e w2 ⟨rfl,R⟩;have a0:=aB a2 R;have a4:=jz (V.keep R);clear a2 R V O U K I J;go_wp2_with (first
  | (refine al 195 z64 rfl rfl dH ?_)
  | (refine bQ 195 (.tmp 3) (.tmp 10) rfl rfl rfl rfl (by simp only[js,D];kernel_rfl) hz h1 ?_;intro w3 a7 a1 b0;have a6:=jz (Blk.range a7);have a5:=jz (a4.keep a1))
  | (refine ld 195 _ rfl rfl rfl a6 underlying195 rfl (by rw[jt,D];kernel_rfl) ?_)
  | (refine aN 195 (.tmp 2) (.tmp 12) rfl rfl rfl rfl a5 (by simp only[jt,js,D];kernel_rfl) (by rw[jt];exact hz) (by rw[jt];exact h1) ?_;intro wZ Z a9 _ _))
 have a8:=(aB a0 a1).trans a9
 try rw[jt] at Z
 refine bodyPost_ret (results_cell_row rfl _ _ w.heap.size 195 _ (0,0) _ rfl Z underlying195 rfl (by simp only[js,D];kernel_rfl)) rfl ⟨rfl,a8⟩
def room(z:Int):Int:=if z<1 then 0 else z-1
theorem qB(f z:Int)(w:Wd)(J:aI z):
  Wc 176 #[.agg #[.int .i64 f,.int .i64 z]] w (Rt w (.int .i64 (room z))):=by
 have D:Bw w (w.alloc (.cells #[.int .i64 f,.int .i64 z] 138)):=(ji _ w).alloc (ja _) _;have K:=(Blk.new w 138 #[.int .i64 f,.int .i64 z]).cell 1;simp only[jf,jh,jg] at K;have h1 : -9223372036854775808<=z:=J.1;have O:z<=9223372036854775807:=J.2;rcases jb (decide (z<1)) with I|I
 ·go_enter func176,ntmps176
  go_wp2_with fail
  go_ret;exact⟨by unfold room;rw[jP (of_decide_eq_true I)];rfl,D⟩
 ·have R:1<=z:=by have:=of_decide_eq_false I;omega
  go_enter func176,ntmps176
  go_wp2_with fail
  go_ret;exact⟨by unfold room;rw[jQ (by omega)];rfl,D⟩
def bG(q:Wl×Int):Bool:=decide (0<=q.2) && decide (q.2<=4611686018427387904)
end Go.Proofs.YtjjlaipkkdncfaaGreatDoor
