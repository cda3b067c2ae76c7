import Derived.Test.YtiaigidbcljblaaGreatDoorMS1
import Derived.Laws.BitsAllLaws
import Derived.Deep.AppendLies
import Derived.WalkMore
import Derived.ScopeJumps
import Derived.Lib.SlBytesConst
set_option linter.unusedSimpArgs false
set_option maxRecDepth 100000
set_option maxHeartbeats 40000000
namespace Go.Proofs.YtiaigidbcljblaaGreatDoor
open Go.Proofs.Tryz
open Go.RowKit
attribute [local irreducible] wpQuiet wpAnyH
def pB(x:Nat):Nat:=if x % 2=1 then (x/2) ^^^ 2197175160 else x/2
def PG(x:Nat):Nat:=pB (pB (pB (pB (pB (pB (pB (pB x)))))))
theorem jG{x:Nat}(h:x<4294967296):pB x<4294967296:=by
 unfold pB;split
 ·exact Nat.xor_lt_two_pow (n:=32) (by omega) (by omega)
 ·omega
theorem T5{x:Nat}(h:x<4294967296):PG x<4294967296:=by
 unfold PG;exact jG (jG (jG (jG (jG (jG (jG (jG h)))))))
def dB(x:Nat)(l:Wl):Nat:=l.foldl (λx c=>PG (x ^^^ c.toNat)) x
def cC(l:Wl):Nat:=4294967295-dB 4294967295 l
theorem rT(l:Wl)(hb:Bys l):∀ x,x<4294967296->dB x l<4294967296:=by
 induction l with
 | nil=>intro x h;exact h
 | cons c l ih=>
  intro x h;have j:=hb c (by simp);exact ih (λb h=>hb b (by simp[h])) _ (T5 (Nat.xor_lt_two_pow (n:=32) (by omega) (by omega)))
theorem pJ(x:Nat)(a b:Wl):dB x (a++b)=dB (dB x a) b:=by
 unfold dB;rw[List.foldl_append]
theorem DV(x:Nat)(l:Wl)(k:Nat)(h:k<l.length):dB x (l.take (k+1))=PG (dB x (l.take k) ^^^ l[k].toNat):=by
 rw[j6 h,pJ];rfl
attribute [irreducible] dB
theorem PH(y:Nat)(hy:y<4294967296):4294967295 ^^^ y=4294967295-y:=by
 have h1:=BitVec.toNat_not (x:=BitVec.ofNat 32 y);have j:(BitVec.allOnes 32 ^^^ BitVec.ofNat 32 y).toNat=(~~~ BitVec.ofNat 32 y).toNat:=by rw[BitVec.allOnes_xor]
 rw[BitVec.toNat_xor,h1,BitVec.toNat_allOnes,BitVec.toNat_ofNat,Nat.mod_eq_of_lt (by omega)] at j;simpa using j
theorem T6(x:Nat)(w:Wd)(D:x<4294967296):
  Wc 346 #[.int .u32 x] w λe w'=>e = .returned (.int .u32 (pB x))/\w=w':=by
 have h1:bits .and .u32 (x:Int) 1=((x % 2:Nat):Int):=by
  have:=u32_and_nat x 1 D (by omega);rw[Nat.and_one_is_mod] at this;exact this
 have I:bits .xor .u32 ((x:Int)/2) 2197175160=(((x/2) ^^^ 2197175160:Nat):Int):=by
  have:=u32_xor_nat (x/2) 2197175160 (by omega) (by omega);simpa using this
 rcases jb ((x:Int) % 2 == 1) with j|j
 all_goals
  go_enter func346,ntmps346
  go_wp2_with fail
  go_ret
 ·have e:pB x=(x/2) ^^^ 2197175160:=by unfold pB;rw[jP (by simp at j;omega)]
  rw[e];exact⟨rfl,rfl⟩
 ·have e:pB x=x/2:=by unfold pB;rw[jQ (by simp at j;omega)]
  rw[e];exact⟨by simp,rfl⟩
def KG:Nat->Nat->Nat
 | 0,x=>x
 | j+1,x=>pB (KG j x)
theorem DW{x:Nat}(h:x<4294967296):∀ j,KG j x<4294967296
 | 0=>h
 | j+1=>jG (DW h j)
theorem L9(x:Nat)(w:Wd)(J:x<4294967296):
  Wc 343 #[.int .u32 x] w λe w'=>e = .returned (.int .u32 (PG x))/\w=w':=by
 have K:=jz J;clear J;go_enter func343,ntmps343
 go_wp2_with fail
 go_loopw [3,0] (λi y wr=>∃ j:Nat,j<=8/\i = .int .i64 j/\y = .int .u32 (KG j x)/\wr=w) (λi _ _=>8-(intOf i).toNat)
 case atStart=>exact⟨0,j0 _,rfl,rfl,rfl⟩
 case round=>
  obtain⟨j,R,rfl,rfl,I⟩:=hrel;rw[I];clear I;by_cases hlt:j<8
  ·have O:(j:Int)<8:=by omega
   go_wp2_with fail
   refine(T6 (KG j x) w (DW K j)).mono ?_;rintro e U ⟨rfl,D⟩;subst D;go_wp2_with fail
   exact⟨⟨j+1,by omega,by go_num,rfl,by trivial⟩,by simp[intOf];omega⟩
  ·obtain rfl:j=8:=by omega
   go_wp2_with fail
   go_ret;exact⟨rfl,rfl⟩
theorem T7(r x:Nat)(vb:Value)(l:Wl)(w:Wd)(hc:w.cell? ⟨r,0,none⟩=some (.int .u32 x))(hf:w.frozen? ⟨r,0,none⟩=false)(hs:Sn w 1 vb l.length (u8s l))(hb:Bys l)(hl:l.length<64)(hx:x<4294967296):
  Wc 339 #[.pointer (some ⟨r,0,none⟩),vb] w λe w'=>e = .returned (.tuple #[])/\w'=w.setCell ⟨r,0,none⟩ (.int .u32 (dB x l)):=by
 obtain⟨A,cap,rfl,a1,_,_⟩:=id hs;have HS:=jz hs;have Z:=jz hb;have HX:=jz hx;have a2:(l.length:Int)<64:=by omega
 clear hs hb hx;go_enter func339,ntmps339
 go_wp2_with fail
 go_loopw [18,4] (λi y wr=>∃ j:Nat,j<=l.length/\i = .int .i64 j/\y = .int .u32 (dB x (l.take j))/\wr=w) (λi _ _=>l.length-(intOf i).toNat)
 case atStart=>exact⟨0,j0 _,rfl,by simp[dB],rfl⟩
 case round=>
  obtain⟨j,hj,rfl,rfl,hw⟩:=hrel;rw[hw];clear hw;by_cases hlt:j<l.length
  ·obtain⟨A',a0,hA,_,_,D⟩:=HS.out;injection hA with hA _ hcp
   subst hA hcp;obtain⟨b,off,rfl,hr⟩:=D (by omega);have U:=hr j _ (oO l j hlt);have R:=Z.out l[j] (List.getElem_mem hlt);obtain⟨c,J⟩:∃ c:Nat,l[j]=c:=⟨l[j].toNat,by omega⟩;have I:=DV x l j hlt;have K:=rT (l.take j) (λb hb=>Z.out b (j7 hb)) x HX.out;rw[J] at U I R;obtain⟨y,hy⟩:=je (dB x (l.take j));rw[<- hy] at I K ⊢;have O:=jz I;have a5:=u32_xor_nat y c K (by omega);have HZ:Hid (y ^^^ c<4294967296):=jz (Nat.xor_lt_two_pow (n:=32) (by omega) (by omega));have a3:(0:Int)<=j:=by omega
   have a4:(j:Int)<l.length:=by omega
   clear hr D I hy J;go_wp2_with fail
   refine(L9 (y ^^^ c) w HZ).mono ?_;rintro e w1 ⟨rfl,V⟩;subst V;go_wp2_with fail
   refine⟨⟨j+1,by omega,by go_num,?_,by trivial⟩,by simp[intOf];omega⟩;rw[O.out];simp
  ·obtain rfl:j=l.length:=by omega
   rw[List.take_length];obtain⟨y,hy⟩:=je (dB x l);rw[<- hy];have HY:=jz hy;clear hy;go_wp2_with fail
   go_end0
   rw[HY.out];exact⟨rfl,rfl⟩
theorem BL(va:Value)(ps:List (Value×Wl))(w:Wd)(V:Parts w va ps)(hn:ps.length<=1000)(hb:∀ p∈ps,Bys p.2)(hl:∀ p∈ps,p.2.length<64):
  Wc 331 #[va] w (Rt w (.int .u32 (cC (cat ps)))):=by
 obtain⟨A,cap,rfl,b7,_,_⟩:=id V.row;have HP:=jz V;have HB:=jz hb;have a6:=jz hl;clear V hb hl;go_enter func331,ntmps331
 go_wp2_with fail
 go_loopw [10] (λi wr=>∃ k:Nat,k<=ps.length/\i = .int .i64 k/\wr.cell? ⟨w.heap.size,0,none⟩=some (.int .u32 (dB 4294967295 (cat (ps.take k))))/\wr.frozen? ⟨w.heap.size,0,none⟩=false/\Bw w wr) (λi _=>ps.length-(intOf i).toNat)
 case atStart=>
  refine⟨0,j0 _,rfl,?_,?_,(by repeat (first|exact ji _ _|assumption|refine cA ?_ _|refine Below.setCell ?_ (by first|exact ja _|assumption|omega|(simp <;> omega)) _|refine Below.alloc ?_ (by first|exact ja _|assumption|omega|(simp <;> omega)) _))⟩
  ·have e:dB 4294967295 (cat (ps.take 0))=4294967295:=by simp[dB,cat]
   rw[e];exact(Blk.new w 459 #[.int .u32 4294967295]).cell 0
  ·exact(Blk.new w 459 #[.int .u32 4294967295]).frozen 0
 case round=>
  obtain⟨k,hk,rfl,I,hfr,R⟩:=hrel;by_cases hlt:k<ps.length
  ·obtain⟨b,off,A',c',rfl,hc,Z⟩:=(HP.below R).at k hlt;have a3:=DE ps k hlt;have U:=HB.out ps[k] (List.getElem_mem hlt);have a2:=a6.out ps[k] (List.getElem_mem hlt);have D:Bys (cat (ps.take k)):=λb hb=>by
    unfold cat at hb;rw[List.mem_flatMap] at hb;obtain⟨p,V,hb⟩:=hb;exact HB p (j7 V) b hb
   have j:=rT _ D 4294967295 (by omega);have K:dB 4294967295 (cat (ps.take (k+1)))=dB (dB 4294967295 (cat (ps.take k))) ps[k].2:=by rw[a3,pJ]
   obtain⟨x,hx⟩:=je (ps[k].2);obtain⟨y,hy⟩:=je (dB 4294967295 (cat (ps.take k)));rw[<- hx] at hc Z K U a2;rw[<- hy] at K I j;have a4:=jz K;have a8:=jz Z;have a5:=jz U;have a0:=jz I;have a7:=jz j;have c2:(0:Int)<=k:=by omega
   have c3:(k:Int)<ps.length:=by omega
   clear Z hx hy a3 K U I j D;go_wp2_with fail
   refine(T7 w.heap.size y _ x wr a0 hfr a8 a5 a2 a7).mono ?_;rintro e w2 ⟨rfl,O⟩;have a9:Bw w w2:=by rw[O];exact R.setCell (p:=⟨w.heap.size,0,none⟩) (ja _) _
   have b0:w2.cell? ⟨w.heap.size,0,none⟩=some (.int .u32 (dB y x)):=by rw[O];exact World.cell?_setCell_same _ _ _ a0.out
   have b1:w2.frozen? ⟨w.heap.size,0,none⟩=false:=by rw[O,World.frozen?_setCell];exact hfr
   clear O;go_wp2_with fail
   refine⟨⟨k+1,by omega,by go_num,?_,b1,a9⟩,by simp[intOf];omega⟩;rw[a4.out];exact b0
  ·obtain rfl:k=ps.length:=by omega
   rw[List.take_length] at I;have D:Bys (cat ps):=λb hb=>by
    unfold cat at hb;rw[List.mem_flatMap] at hb;obtain⟨p,V,hb⟩:=hb;exact HB p V b hb
   have j:=rT _ D 4294967295 (by omega);have J:cC (cat ps)=4294967295-dB 4294967295 (cat ps):=rfl;obtain⟨y,hy⟩:=je (dB 4294967295 (cat ps));rw[<- hy] at I j J;have a1:=jz J;clear hy J D;go_wp2_with fail
   go_ret;rw[a1.out];refine⟨?_,R⟩;have e1:bits .xor .u32 IntKind.u32.max (y:Int)=((4294967295-y:Nat):Int):=by
    rw[<- PH y j];exact u32_xor_nat 4294967295 y (by omega) j
   show Ending.returned (.int .u32 (bits .xor .u32 IntKind.u32.max (y:Int)))=_;rw[e1]
def body(p:Wl):Wl:=pad (beB 2 p.length++p)
def rec(g:Nat)(p:Wl):Wl:=(body p).take 56++(beB 4 (cC ((body p).take 56++beB 4 g))++beB 4 g)
theorem nR(p:Wl)(h:p.length<=54):(body p).length=64:=uZ _ (by rw[jj,bR];omega)
theorem DX{p:Wl}(h:Bys p):Bys (body p):=TR λb hb=>by
 rcases List.mem_append.1 hb with hb|hb
 ·exact jD _ _ b hb
 ·exact h b hb
theorem kI(g:Nat)(p:Wl)(h:p.length<=54):(rec g p).length=64:=by
 unfold rec;rw[jj,jj,jv,nR p h,bR,bR];rfl
theorem zF(l:Wl):cC l<256 ^ 4:=by unfold cC;omega
theorem T8(g:Nat)(p:Wl)(h:p.length<=54):
  ((u8s (beB 4 g)).zipIdx 60).foldl (fun(cs:Wa) (x:Value×Nat)=>cs.setIfInBounds x.2 x.1) (((u8s (beB 4 (cC ((body p).take 56++beB 4 g)))).zipIdx 56).foldl (fun(cs:Wa) (x:Value×Nat)=>cs.setIfInBounds x.2 x.1) (u8s (body p)).toArray)=(u8s (rec g p)).toArray:=by
 have hb:=nR p h;have hs:(u8s (body p)).toArray.size=64:=by simp[u8s,hb]
 have j:=λx=>bR 4 x
 have I:(((u8s (beB 4 (cC ((body p).take 56++beB 4 g)))).zipIdx 56).foldl (fun(cs:Wa) (x:Value×Nat)=>cs.setIfInBounds x.2 x.1) (u8s (body p)).toArray).size=64:=by rw[mH];exact hs
 apply Array.ext_getElem?;intro i;rw[vA _ 64 I _ 60 (by rw[aJ,j];omega),vA _ 64 hs _ 56 (by rw[aJ,j];omega),aJ,aJ,j,j,show(u8s (rec g p)).toArray[i]? = (u8s (rec g p))[i]? by simp];unfold rec;rw[fN,fN];have D:(u8s ((body p).take 56)).length=56:=by rw[aJ,jv,hb];rfl
 by_cases h1:i<56
 ·rw[jQ (by omega),jQ (by omega),jy (by omega),nL,List.getElem?_take,jP h1];simp
 ·rw[jx (by omega),D];by_cases h2:i<60
  ·rw[jQ (by omega),jP (by omega),jy (by rw[aJ,j];omega)]
  ·rw[jx (by rw[aJ,j];omega),aJ,j];by_cases h3:i<64
   ·rw[jP (by omega),show i-56-4=i-60 by omega]
   ·rw[jQ (by omega),jQ (by omega),Array.getElem?_eq_none (by rw[hs];omega),List.getElem?_eq_none (by rw[aJ,j];omega)]
theorem cH{w:Wd}{g:Nat}{t:TypeId}{cs:Wa}(h:Blk w g t cs){off n:Nat}(D:off+n<=cs.size):w.there g off n:=λj x=>⟨by
 rw[h.cell,Array.getElem?_eq_getElem (by omega)];rfl,h.frozen _⟩
theorem Sn.of_blk{w:Wd}{g:Nat}{t:TypeId}{l:Wl}(h:Blk w g t (u8s l).toArray)(i n c:Nat)(I:i+n<=l.length)(D:n<=c):Sn w 1 (.slice (some ⟨g,i,none⟩) n c) n (u8s ((l.drop i).take n)):=
 ⟨_,c,rfl,D,by rw[aJ,jv,List.length_drop];omega,λ_=>⟨g,i,rfl,λj u x=>by
  rw[h.cell]
  rw[nL,qH,List.getElem?_take] at x
  split at x
  ·rw[List.getElem?_drop] at x
   simpa using x
  ·cases x⟩⟩
theorem cD(b:Nat)(vs:Wv)(o:Nat)(w:Wd):Off b w (w.setCells b o vs):=
 have h:=aU (ja b) vs o w
 ⟨h.1.os,h.1.tape,h.1.output,by rw[h.2];exact ja _,λk _ j=>bE j vs o w⟩
theorem Sn.offAt{w w':Wd}{b g i n c s:Nat}{I:Wv}(h:Sn w s (.slice (some ⟨g,i,none⟩) n c) n I)(R:Off b w w')(D:g≠b):Sn w' s (.slice (some ⟨g,i,none⟩) n c) n I:=by
 obtain⟨A,cap,hv,J,O,V⟩:=h;refine⟨A,cap,hv,J,O,λU=>?_⟩;obtain⟨Z,off,rfl,x⟩:=V U;injection hv with hA _ _
 injection hA with hA
 injection hA with h1 h2 _
 subst h1 h2;exact⟨g,i,rfl,λj u K=>R.cell (x j u K) D⟩
attribute [irreducible] body rec
theorem vO(g:Nat)(vb:Value)(p:Wl)(w:Wd)(hs:Sn w 1 vb p.length (u8s p))(hb:Bys p)(hp:p.length<=54)(hg:g<4294967296):
  Wc 313 #[.int .u32 g,vb] w (Rt w (.tuple #[.agg (u8s (rec g p)).toArray,.bool true])):=by
 obtain⟨A,cap,rfl,q7,_,_⟩:=id hs;have HS:=jz hs;have HB:=jz hb;have q6:=jz hp;have r0:¬(54:Int)<p.length:=by omega
 have a7:=nR p hp;have f7:(u8s (body p)).length=64:=by rw[aJ,a7]
 have HG:=jz hg;have e1:Bw w (w.alloc (.cells z64 243)):=(by repeat (first|exact ji _ _|assumption|refine cA ?_ _|refine Below.setCell ?_ (by first|exact ja _|assumption|omega|(simp <;> omega)) _|refine Below.alloc ?_ (by first|exact ja _|assumption|omega|(simp <;> omega)) _));have d2:=Blk.new w 243 z64;have g8:=jz (HS.alloc (.cells z64 243));have m3:(w.alloc (.cells z64 243)).heap.size=w.heap.size+1:=by simp
 clear hs hb hg;go_enter func313,ntmps313
 go_wp2_with (refine al 243 z64 rfl rfl dL ?_)
 obtain⟨w1,m4⟩:=je (w.alloc (.cells z64 243));rw[<- m4] at e1 d2 g8 m3 ⊢;clear m4;refine(jE 2 p.length w1 (by omega) (by omega) (by omega)).mono ?_;rintro e w2 ⟨vv,rfl,D,a5⟩;obtain⟨g2,c2,e2,_⟩:=D.form (by omega);subst e2;have b7:=aA e1 a5;have h5:=d2.keep a5;have b0:Hid (Parts (w2.alloc (.cells #[(.slice (some ⟨g2,0,none⟩) 2 c2),.slice A p.length cap] 68)) (.slice (some ⟨w2.heap.size,0,none⟩) 2 2) [((.slice (some ⟨g2,0,none⟩) 2 c2),beB 2 p.length),(.slice A p.length cap,p)]):=jz ⟨Sn.new w2 #[(.slice (some ⟨g2,0,none⟩) 2 c2),.slice A p.length cap] 68 1 2 rfl,λq hq=>by
  simp only[jl,j8,or_false] at hq
  rcases hq with rfl|rfl
  ·have:=(Sn.own D).alloc (.cells #[(.slice (some ⟨g2,0,none⟩) 2 c2),.slice A p.length cap] 68)
   rw[bR]
   exact this
  ·exact(g8.below a5).alloc _⟩
 have f3:Bw w2 (w2.alloc (.cells #[(.slice (some ⟨g2,0,none⟩) 2 c2),.slice A p.length cap] 68)):=(ji _ _).alloc (ja _) _;have c5:cat [((.slice (some ⟨g2,0,none⟩) 2 c2),beB 2 p.length),(.slice A p.length cap,p)]=beB 2 p.length++p:=by simp[cat]
 have d0:eB [((.slice (some ⟨g2,0,none⟩) 2 c2),beB 2 p.length),(.slice A p.length cap,p)]=(beB 2 p.length++p).length:=by simp[eB]
 have R:=jz (And.intro c5 d0);have f5:(beB 2 p.length++p).length<=64:=by rw[jj,bR];omega
 clear c5 d0;go_wp2_with fail
 refine(lX _ [((.slice (some ⟨g2,0,none⟩) 2 c2),beB 2 p.length),(.slice A p.length cap,p)] _ b0 (by simp) (by rw[R.out.2];omega)).mono ?_;rintro e w3 ⟨v3,rfl,I,e8⟩;rw[R.out.1,R.out.2] at I;have c3:=aA b7 (aA f3 e8);have h6:=(h5.keep f3).keep e8;have h0:=jz (Sn.own I);clear I e8 f3 h5 b7 b0 D a5 d2 e1;go_wp2_with fail
 refine(DF v3 (beB 2 p.length++p) w3 h0 f5).mono ?_;rintro e x ⟨rfl,f0⟩;have a0:=aA c3 f0;have d5:=h6.keep f0;have a1:pad (beB 2 p.length++p)=body p:=by unfold body;rfl
 rw[a1];have r3:IntKind.u64.wrap (g:Int)=g:=IntWalk.u64_in _ (by have:=HG.out;omega);have h1:=dN (body p);have m6:z64.size=(u8s (body p)).toArray.size:=by rw[cX];simp[f7]
 clear c3 f0 h6 a1 h0;go_wp2_with (first
  | (refine al 243 z64 rfl rfl dL ?_)
  | (refine bZ 243 (.tmp 6) (.tmp 22) rfl rfl rfl rfl (by simp only[js,f7];kernel_rfl) m6 h1 ?_;intro wM h7 f2 q4))
 have q2:g<256 ^ 4:=by have:=HG.out;omega
 refine(jE 4 g wM (by omega) (by omega) q2).mono ?_;rintro e O ⟨vv,rfl,j,a6⟩;obtain⟨K,U,e5,_⟩:=j.form (by omega);subst e5;have r2:=a0.size;have d1:Hid (Blk O x.heap.size 243 (u8s (body p)).toArray):=jz (Blk.keep h7 a6);have m8:Hid (Blk O w.heap.size 243 z64):=jz ((d5.keep f2).keep a6);have h9:=aA (aA a0 f2) a6;have h3:=jz (Sn.own j);have a3:(u8s (body p)).toArray.size=64:=by simp[f7]
 have k4:w.heap.size≠x.heap.size:=by have:=d5.lt;omega
 have c6:w.heap.size<=x.heap.size:=by omega
 have k3:K≠x.heap.size:=by
  have:=j.lt K rfl;omega
 clear h7 d5 f2 a6 j a0 h1 m6 q4;have g0:Hid (Parts (O.drew.alloc (.cells #[.slice (some ⟨x.heap.size,0,none⟩) 56 64,(.slice (some ⟨K,0,none⟩) 4 U)] 68)) (.slice (some ⟨O.drew.heap.size,0,none⟩) 2 2) [(.slice (some ⟨x.heap.size,0,none⟩) 56 64,(body p).take 56),((.slice (some ⟨K,0,none⟩) 4 U),beB 4 g)]):=jz ⟨Sn.new O.drew #[.slice (some ⟨x.heap.size,0,none⟩) 56 64,(.slice (some ⟨K,0,none⟩) 4 U)] 68 1 2 rfl,λq hq=>by
  simp only[jl,j8,or_false] at hq
  rcases hq with rfl|rfl
  ·have:=Sn.of_blk (d1.drewN 1) 0 56 64 (by rw[a7];omega) (by omega)
   have h2:=this.alloc (.cells #[.slice (some ⟨x.heap.size,0,none⟩) 56 64,(.slice (some ⟨K,0,none⟩) 4 U)] 68)
   simp only[List.drop_zero] at h2
   simp only[jv,a7]
   exact h2
  ·simp only[bR]
   exact Sn.alloc (w:=O.drew) h3 _⟩
 have g1:Hid (∀ q∈[(Value.slice (some ⟨x.heap.size,0,none⟩) 56 64,(body p).take 56),((.slice (some ⟨K,0,none⟩) 4 U),beB 4 g)],Bys q.2):=jz (λq hq=>by
  simp only[jl,j8,or_false] at hq
  rcases hq with rfl|rfl
  ·exact λb hb=>DX HB b (j7 hb)
  ·exact jD _ _)
 have g3:Hid (∀ q∈[(Value.slice (some ⟨x.heap.size,0,none⟩) 56 64,(body p).take 56),((.slice (some ⟨K,0,none⟩) 4 U),beB 4 g)],q.2.length<64):=jz (λq hq=>by
  simp only[jl,j8,or_false] at hq
  rcases hq with rfl|rfl
  ·simp only[jv,a7];omega
  ·simp only[bR];omega)
 have f8:Hid (cat [(Value.slice (some ⟨x.heap.size,0,none⟩) 56 64,(body p).take 56),((.slice (some ⟨K,0,none⟩) 4 U),beB 4 g)]=(body p).take 56++beB 4 g):=jz (by simp[cat]);have f9:=jz (zF ((body p).take 56++beB 4 g));have q0:IntKind.u64.wrap (cC ((body p).take 56++beB 4 g):Int)=(cC ((body p).take 56++beB 4 g):Int):=IntWalk.u64_in _ (by have:=f9.out;omega);have r1:=d1.lt;go_wp2_with fail
 refine bQ 8 (λ_=>True) (by kernel_rfl) (by kernel_rfl) (trivial) (λhH=>?_);refine jT 0 (.slice 243 (.tmp 6) (some (.const (.int .i64 56))) none none) (some 27) (.slice (some ⟨x.heap.size,56,none⟩) 8 8) hH ?_;simp only[jq];refine jT 1 (.slice 243 (.tmp 6) none (some (.const (.int .i64 56))) none) (some 28) (.slice (some ⟨x.heap.size,0,none⟩) 56 64) hH ?_;simp only[jq];refine jM 2 (.tmp 8) (some 29) (.slice (some ⟨K,0,none⟩) 4 U) hH ?_;simp only[jq];refine jW [3] ?_;refine jS 3 (.buildSlice 261 2 #[(0,.tmp 28),(1,.tmp 29)]) (some 30) (.slice (some ⟨O.drew.heap.size,0,none⟩) 2 2) (O.drew.alloc (.cells #[.slice (some ⟨x.heap.size,0,none⟩) 56 64,.slice (some ⟨K,0,none⟩) 4 U] 68)) trivial ?_ jN;simp only[jq];refine jW [4] ?_;refine jC 4 (.call { callee:=.value (.func 331),args:=#[.tmp 30],argTypes:=#[261] }) (some 31) 331 (#[.slice (some ⟨O.drew.heap.size,0,none⟩) 2 2]) ?_ jN;refine(BL _ [(.slice (some ⟨x.heap.size,0,none⟩) 56 64,(body p).take 56),(.slice (some ⟨K,0,none⟩) 4 U,beB 4 g)] _ g0 (by simp) g1 g3).mono ?_;rintro e w6 ⟨rfl,k0⟩;rw[f8.out];refine⟨_,rfl,trivial,λhH=>?_⟩;simp only[jq];refine jT 5 (.convert 51 141 (.tmp 31)) (some 32) (.int .u64 (cC ((body p).take 56++beB 4 g))) hH ?_;simp only[jq];refine jW [6] ?_;refine jC 6 (.call { callee:=.value (.func 319),args:=#[.const (.int .i64 4),.tmp 32],argTypes:=#[3,141] }) (some 33) 319 (#[.int .i64 4,.int .u64 (cC ((body p).take 56++beB 4 g))]) ?_ jN;refine(jE 4 (cC ((body p).take 56++beB 4 g)) w6 (by omega) (by omega) f9).mono ?_;rintro e w7 ⟨vc,rfl,a2,k1⟩;refine⟨_,rfl,trivial,λhH=>?_⟩;simp only[jq];have J:Bw O w7:=aA (aA (((ji O.heap.size O).drew).alloc (ja _) (.cells #[.slice (some ⟨x.heap.size,0,none⟩) 56 64,.slice (some ⟨K,0,none⟩) 4 U] 68)) k0) k1;have d7:=d1.keep J;have c7:=cH d7 (by rw[a3];exact(by omega:56+4<=64));refine jW [7] ?_;refine XB (sT:=68) 7 (.tmp 27) (.tmp 33) (some 34) (by kernel_rfl) (by kernel_rfl) (by exact rfl) (by exact rfl) underlying68 (by kernel_rfl) (Sn.own a2) (by omega) c7 (bS _) trivial ?_ jN;simp only[jq];refine wpAnyH_done (by kernel_rfl) ?_ _;have h4:=m8.keep J;have h8:=h3.below J;have c4:=aA h9 J;clear k0 k1 a2 c7 g0 g1 g3 f8 q0;have a8:=cD x.heap.size (u8s (beB 4 (cC ((body p).take 56++beB 4 g)))) 56 w7;have a4:=dO (u8s (beB 4 (cC ((body p).take 56++beB 4 g)))) 56 w7 _ d7;have V:=a8.blk h4 k4;have Z:=h8.offAt a8 k3;have f1:=c4.trans (aU c6 (u8s (beB 4 (cC ((body p).take 56++beB 4 g)))) 56 w7).1;obtain⟨w8,m5⟩:=je (w7.setCells x.heap.size 56 (u8s (beB 4 (cC ((body p).take 56++beB 4 g)))));rw[<- m5] at a8 a4 V Z f1 ⊢;clear m5 a8 d7 h4 h8 c4;have c9:=cH a4 (off:=60) (n:=4) (by rw[mH,a3];exact(by omega:60+4<=64));have m1:=cD x.heap.size (u8s (beB 4 g)) 60 w8;have e0:=dO (u8s (beB 4 g)) 60 w8 _ a4;rw[T8 g p hp] at e0;have b1:=m1.blk V k4;have k2:=f1.trans (aU c6 (u8s (beB 4 g)) 60 w8).1;have f6:=e0.range;rw[jt] at f6;have a9:(u8s (rec g p)).length=64:=by rw[aJ,kI g p hp]
 have q5:z64.size=(u8s (rec g p)).toArray.size:=by rw[cX];simp[a9]
 have q3:=dN (rec g p);have q1:=bS (beB 4 g);have m9:=jz b1;have n1:=jz f6;have n3:=jz c9;have n2:=jz Z;have n0:=jz k2;clear e0 b1 f6 c9 Z k2 m1 a4 V f1;go_wp2_with (first
  | (refine cp (.tmp 35) (.tmp 36) rfl rfl rfl rfl underlying68 (by kernel_rfl) n2 (by omega) n3 q1 ?_)
  | (refine ld 243 _ rfl rfl rfl n1 underlying243 rfl (by rw[a9];kernel_rfl) ?_)
  | (refine aP 243 (.tmp 4) (.tmp 38) rfl rfl rfl rfl m9 (by simp only[js,a9];kernel_rfl) q5 q3 ?_;intro wZ n4 n6 _ _))
 have m2:=n4.range;rw[jt] at m2;refine bodyPost_ret (aC rfl _ rfl m2 underlying243 rfl (by rw[a9];kernel_rfl)) rfl ⟨rfl,n0.trans n6⟩
def DY(l:Wl):Bool:=l.all λc=>decide (c=0)
def prs(s:Wl):Option (Nat×Wl):=
 if 54<beN (s.take 2) then none
 else if !DY ((s.drop (2+beN (s.take 2))).take (54-beN (s.take 2))) then none
 else if beN ((s.drop 56).take 4)≠cC (s.take 56++s.drop 60) then none
 else some (beN ((s.drop 60).take 4),(s.drop 2).take (beN (s.take 2)))
theorem RD.alloc{w:Wd}{r:Nat}{v:Value}{j:Wl}{bad:Bool}(h:RD w r v j bad)(o:Obj):RD (w.alloc o) r v j bad:=⟨h.1.alloc o,h.2.alloc o⟩
theorem RD.keep{w w':Wd}{r:Nat}{v:Value}{j:Wl}{bad:Bool}(h:RD w r v j bad)(hb:Bw w w'):RD w' r v j bad:=⟨Blk.keep h.1 hb,h.2.below hb⟩
theorem PI(w:Wd){g:Nat}(s:Wl)(x:s.length=64)(j:Blk w g 243 (u8s s).toArray):
  Parts (w.alloc (.cells #[.slice (some ⟨g,0,none⟩) 56 64,.slice (some ⟨g,60,none⟩) 4 4] 68)) (.slice (some ⟨w.heap.size,0,none⟩) 2 2) [(.slice (some ⟨g,0,none⟩) 56 64,s.take 56),(.slice (some ⟨g,60,none⟩) 4 4,s.drop 60)]:=
 ⟨Sn.new w #[.slice (some ⟨g,0,none⟩) 56 64,.slice (some ⟨g,60,none⟩) 4 4] 68 1 2 rfl,λq D=>by
  simp only[jl,j8,or_false] at D
  rcases D with rfl|rfl
  ·have:=(Sn.of_blk j 0 56 64 (by omega) (by omega)).alloc (.cells #[.slice (some ⟨g,0,none⟩) 56 64,.slice (some ⟨g,60,none⟩) 4 4] 68)
   rw[List.drop_zero] at this
   simp only[jv,x]
   exact this
  ·have:=(Sn.of_blk j 60 4 4 (by omega) (by omega)).alloc (.cells #[.slice (some ⟨g,0,none⟩) 56 64,.slice (some ⟨g,60,none⟩) 4 4] 68)
   rw[List.take_of_length_le (by rw[List.length_drop];omega)] at this
   simp only[List.length_drop,x]
   exact this⟩
theorem MA{w w':Wd}{g b r:Nat}{s:Wl}{v:Value}{bad:Bool}{A:Option Addr}{k cap:Nat}(h:Parts w (.slice (some ⟨b,0,none⟩) 2 2) [(.slice (some ⟨g,0,none⟩) 56 64,s.take 56),(.slice (some ⟨g,60,none⟩) 4 4,s.drop 60)])(_:Blk w g 243 (u8s s).toArray)(x:Blk w r 345 #[v,.bool bad])(I:v = .slice A k cap)(j:Off r w w')(_:g≠r)(hb:b≠r):
  Parts w' (.slice (some ⟨b,0,none⟩) 2 2) [(.slice (some ⟨g,0,none⟩) 56 64,s.take 56),(.slice (some ⟨g,60,none⟩) 4 4,s.drop 60)]:=
 ⟨h.row.offAt j hb,λq D=>(h.part q D).offB x I j⟩
theorem sW(s:Wl)(w:Wd)(hl:s.length=64)(hb:Bys s):
    Wc 329 #[.agg (u8s s).toArray] w λe w'=>Bw w w' /\
      ((prs s = none /\ e = .returned (.tuple #[.int .u32 0, .slice none 0 0, .bool false])) \/
       (∃ g p v,prs s=some (g,p)/\e = .returned (.tuple #[.int .u32 g,v,.bool true])/\Sn w' 1 v p.length (u8s p))):=by
  have s3:(u8s s).length=64:=by rw[aJ,hl]
  obtain⟨w1,e8⟩:=je (w.alloc (.cells (u8s s).toArray 243));have g2:Blk w1 w.heap.size 243 (u8s s).toArray:=by rw[e8];exact Blk.new _ _ _
  have g8:Bw w w1:=by rw[e8];exact(by repeat (first|exact ji _ _|assumption|refine cA ?_ _|refine Below.setCell ?_ (by first|exact ja _|assumption|omega|(simp <;> omega)) _|refine Below.alloc ?_ (by first|exact ja _|assumption|omega|(simp <;> omega)) _))
  have d1:Sn w1 1 (.slice (some ⟨w.heap.size,0,none⟩) 64 64) s.length (u8s s):=by
    have:=Sn.of_blk g2 0 64 64 (by omega) (by omega);rw[List.drop_zero,List.take_of_length_le (by omega)] at this;rw[hl];exact this
  have m6:=jz d1;have h9:=jz g2;have a5:=jz hb;have x:=jz hl;clear d1 g2 hb hl;go_enter func329,ntmps329
  go_wp2_with fail
  refine wp_scope_jumps 0 (λa w'=>Bw w w'/\prs s=none/\∃ u0 u1 u2 u3 u4 u5 u6 u7 u8 u9 u10 u11 u12 u13 u14 u15 u16 u17 u18 u19 u20 u21 u22 u23 u24 u25 u26 u27 u28 u29 u30 u31 u32 u33 u34 u35 u36 u37 u38 u39 u40 u41 u42 u43:Value,a={ tmps:=#[u0,u1,u2,u3,u4,u5,u6,u7,u8,u9,u10,u11,u12,u13,u14,u15,u16,u17,u18,u19,u20,u21,u22,u23,u24,u25,u26,u27,u28,u29,u30,u31,u32,u33,u34,u35,u36,u37,u38,u39,u40,u41,u42,u43],defers:=[] }) (λ_ _=>0) rfl ?first ?pass
  case pass=>
    rintro a wj ⟨n3,q0,u0,u1,u2,u3,u4,u5,u6,u7,u8,u9,u10,u11,u12,u13,u14,u15,u16,u17,u18,u19,u20,u21,u22,u23,u24,u25,u26,u27,u28,u29,u30,u31,u32,u33,u34,u35,u36,u37,u38,u39,u40,u41,u42,u43,rfl⟩;have HJ:=jz (And.intro n3 q0);clear n3 q0;go_wp2_with fail
    simp only[Exit.jump]
    go_ret3
    exact⟨HJ.out.1,.inl ⟨HJ.out.2,rfl⟩⟩
  go_wp2_with fail
  rw[<- e8];clear e8;refine(DC _ s w1 m6 (by rw[x.out];omega)).mono ?_;rintro e w2 ⟨r,v,rfl,hR,hr,h3⟩;have b7:=aA g8 h3;have f3:=jz (h9.keep h3);have r3:=g8.size;have a0:w.heap.size<=r:=by omega
  clear h3 hr h9 m6 g8;have HR:=jz hR;clear hR;go_wp2_with fail
  refine(gV r v s false 2 w2 HR a5 (by rw[x.out];omega) (by omega) (by omega)).mono ?_;rintro e w3 ⟨h6,⟨_,_,v3,rfl,n1⟩|⟨j,_,_⟩⟩
  rotate_left 1
  · exfalso
    rcases j with h|h
    · cases h
    · rw[x.out] at h;omega
  have a4:Bw w w3:=b7.trans (h6.below a0 b7.size);have d0:w.heap.size≠r:=by have:=f3.out;intro e;subst e;have h1:=HR.out.1;unfold Blk at h1 this;rw[this] at h1;injection h1 with h1;injection h1 with h1 h2 _;exact absurd h2 (by decide)
  have k0:=jz (h6.blk f3 d0);obtain⟨n,hn⟩:=je (beN (s.take 2));have r1:n<65536:=by
    rw[hn];have:=nN (s.take 2) (λb hb=>a5.out b (j7 hb));rw[jv,x.out] at this;exact this
  rw[<- hn];have HN:=jz hn;have m2:=jz n1;clear hn n1 h6 b7 f3 HR;rcases jb (decide ((54:Int)<n)) with t1|t1
  · go_wp2_with fail
    go_step3
    simp only[Exit.then,Exit.inBlock];refine⟨rfl,a4,?_,?_⟩
    · unfold prs;rw[<- HN.out,jP (by have:=of_decide_eq_true t1;omega)]
    · iterate 44 apply Exists.intro
      rfl
  · have r2:n<=54:=by have:=of_decide_eq_false t1;omega
    have hm:(54:Int)-n=((54-n:Nat):Int):=by omega
    have n6:(s.drop 2).length=62:=by rw[List.length_drop,x.out]
    have a8:=jz n6;clear n6;go_wp2_with fail
    refine(J5 r v3 (s.drop 2) false n w3 m2 (by rw[a8.out];omega) (by omega)).mono ?_;rintro e w4 ⟨h7,⟨_,_,x4,v4,rfl,q2,n2⟩|⟨j,_,_⟩⟩
    rotate_left 1
    · exfalso
      rcases j with h|h
      · cases h
      · rw[a8.out] at h;omega
    have c2:Bw w w4:=a4.trans (h7.below a0 a4.size);have k1:=jz (h7.blk k0 d0);have m4:=jz q2;have d5:=jz n2;have f6:Hid (((s.drop 2).drop n).length=62-n):=jz (by rw[List.length_drop,a8.out]);clear q2 n2 h7 a4 m2 k0;go_wp2_with fail
    refine(J5 r v4 ((s.drop 2).drop n) false (54-n) w4 d5 (by rw[f6.out];omega) (by omega)).mono ?_;rintro e w5 ⟨e0,⟨_,_,x5,v5,rfl,e1,R⟩|⟨j,_,_⟩⟩
    rotate_left 1
    · exfalso
      rcases j with h|h
      · cases h
      · rw[f6.out] at h;omega
    have c3:Bw w w5:=c2.trans (e0.below a0 c2.size);have q4:=jz (e0.blk k1 d0);obtain⟨A5,c5,e5,r6,_,_⟩:=id e1;subst e5;have f8:=jz e1;obtain⟨A4,c4,e4,_,_,_⟩:=id d5.out.2;have m5:Hid (Sn w5 1 x4 n (u8s ((s.drop 2).take n))):=jz (m4.offB d5.out.1 e4 e0);have q5:=jz R;have hz:((s.drop 2).drop n).take (54-n)=(s.drop (2+n)).take (54-n):=by rw[List.drop_drop]
    rw[hz] at f8 e1;have h8:((s.drop (2+n)).take (54-n)).length=54-n:=by rw[jv,List.length_drop,x.out];omega
    obtain⟨z,f0⟩:=je ((s.drop (2+n)).take (54-n));have q3:Bys z:=by rw[f0];exact λb hb=>a5.out b (List.mem_of_mem_drop (j7 hb))
    rw[<- f0] at f8 h8;have HZ:=jz f0;have r5:=jz q3;have m8:=jz h8;clear e1 hz f0 q3 h8 R e0 e4 c2 k1 m4 d5 f6;go_wp2_with fail
    go_loopw [25] (λi wr=>∃ k:Nat,k<=54-n/\i = .int .i64 k/\Hid (∀ c∈z.take k,c=0)/\wr=w5) (λi _=>(54-n)-(intOf i).toNat)
    case atStart=>exact⟨0,j0 _,rfl,jz (by simp),rfl⟩
    case round=>
      obtain⟨k,hk,rfl,d2,hw⟩:=hrel;rw[hw];clear hw;by_cases hlt:k<54-n
      · obtain⟨A',r0,hA,_,_,c9⟩:=f8.out;injection hA with hA _ hcp
        subst hA hcp;obtain⟨b,off,rfl,hr⟩:=c9 (by omega);have h5:k<z.length:=by rw[m8.out];exact hlt
        have hc:=hr k _ (oO z k h5);have d1:Hid (z[k]=0->∀ c∈z.take (k+1),c=0):=jz (λh0 c hc=>by
          rw[j6 h5,ju] at hc
          rcases hc with hc|hc
          · exact d2 c hc
          · obtain rfl:c=z[k]:=by simpa using hc
            exact h0)
        have q1:Hid (z[k]≠0->DY z=false):=jz (λh0=>by
          unfold DY
          rw[List.all_eq_false]
          exact⟨z[k],List.getElem_mem h5,by simpa using h0⟩)
        obtain⟨c,n4⟩:=je (z[k]);rw[<- n4] at hc d1 q1;have s0:(0:Int)<=k:=by omega
        have s1:(k:Int)<((54-n:Nat):Int):=by omega
        clear hr c9 n4 d2;rcases jb (c != 0) with t2|t2
        · go_wp2_with fail
          go_step3
          simp only[Exit.then,Exit.inBlock];refine⟨rfl,c3,?_,?_⟩
          · unfold prs;rw[<- HN.out,jQ (by omega),jP ?_];rw[<- HZ.out,q1.out (by simpa using t2)];rfl
          · iterate 44 apply Exists.intro
            rfl
        · go_wp2_with fail
          exact⟨⟨k+1,by omega,by go_num,jz (d1 (by simpa using t2)),by trivial⟩,by simp[intOf];omega⟩
      · obtain rfl:k=54-n:=by omega
        rw[List.take_of_length_le (by rw[m8.out];exact ja _)] at d2;have d7:Hid (DY ((s.drop (2+n)).take (54-n))=true):=jz (by
          rw[<- HZ.out]
          unfold DY
          rw[List.all_eq_true]
          exact λc hc=>by simpa using d2.out c hc)
        have f2:((s.drop 2).drop n).drop (54-n)=s.drop 56:=by rw[List.drop_drop,List.drop_drop];congr 1;omega
        have R:=q5.out;rw[f2] at R;have O:Hid (RD w5.drew r v5 (s.drop 56) false):=jz R;obtain⟨A7,c7,g1,_,_,_⟩:=id R.2;have a7:Hid (Blk w5.drew w.heap.size 243 (u8s s).toArray):=jz q4.out;have a9:Hid (Sn w5.drew 1 x4 n (u8s ((s.drop 2).take n))):=jz m5.out;have I:Hid (Bw w w5.drew):=jz c3.drew;have m3:Hid (r<w5.heap.size):=jz R.1.lt;have a2:Hid ((s.drop 56).length=8):=jz (by rw[List.length_drop,x.out]);have D:Hid ((s.drop 60).length=4):=jz (by rw[List.length_drop,x.out]);have a3:Hid ((s.drop 56).drop 4=s.drop 60):=jz (by rw[List.drop_drop]);have k2:Hid (Bys (s.drop 56)):=jz (λb hb=>a5.out b (List.mem_of_mem_drop hb));have a1:Hid (Bys (s.drop 60)):=jz (λb hb=>a5.out b (List.mem_of_mem_drop hb));have f1:Hid (beN ((s.drop 60).take 4)<4294967296):=jz (by
          have:=nN ((s.drop 60).take 4) (λb hb=>a1.out b (j7 hb))
          rw[jv,D.out] at this
          exact this)
        have k4:Hid (∀ q∈[(Value.slice (some ⟨w.heap.size,0,none⟩) 56 64,s.take 56),(Value.slice (some ⟨w.heap.size,60,none⟩) 4 4,s.drop 60)],Bys q.2):=jz (λq hq=>by
          simp only[jl,j8,or_false] at hq
          rcases hq with rfl|rfl
          · exact λb hb=>a5.out b (j7 hb)
          · exact a1)
        have m1:Hid (∀ q∈[(Value.slice (some ⟨w.heap.size,0,none⟩) 56 64,s.take 56),(Value.slice (some ⟨w.heap.size,60,none⟩) 4 4,s.drop 60)],q.2.length<64):=jz (λq hq=>by
          simp only[jl,j8,or_false] at hq
          rcases hq with rfl|rfl
          · simp only[jv,x.out];omega
          · simp only[D.out];omega)
        have k3:Hid (cat [(Value.slice (some ⟨w.heap.size,0,none⟩) 56 64,s.take 56),(Value.slice (some ⟨w.heap.size,60,none⟩) 4 4,s.drop 60)]=s.take 56++s.drop 60):=jz (by simp[cat]);have q6:=jz (zF (s.take 56++s.drop 60));have r7:IntKind.u64.wrap (cC (s.take 56++s.drop 60):Int)=(cC (s.take 56++s.drop 60):Int):=IntWalk.u64_in _ (by have:=q6.out;omega);clear R f2 d2 c3;go_wp2_with fail
        refine bQ 8 (λ_=>True) (by kernel_rfl) (by kernel_rfl) (trivial) (λhH=>?_);refine jM 0 (.tmp 6) (some 32) (.pointer (some ⟨r,0,none⟩)) hH ?_;simp only[jq];refine jT 2 (.slice 243 (.tmp 1) none (some (.const (.int .i64 56))) none) (some 34) (.slice (some ⟨w.heap.size,0,none⟩) 56 64) hH ?_;simp only[jq];refine jT 3 (.slice 243 (.tmp 1) (some (.const (.int .i64 60))) none none) (some 35) (.slice (some ⟨w.heap.size,60,none⟩) 4 4) hH ?_;simp only[jq];refine jW [1,4] ?_;refine jC 1 (.call { callee:=.value (.func 159),args:=#[.tmp 32,.const (.int .i64 4)],argTypes:=#[276,3] }) (some 33) 159 (#[.pointer (some ⟨r,0,none⟩),.int .i64 4]) ?_ ?_
        rotate_left 1
        · refine jS 4 (.buildSlice 261 2 #[(0,.tmp 34),(1,.tmp 35)]) (some 36) (.slice (some ⟨w5.drew.heap.size,0,none⟩) 2 2) (w5.drew.alloc (.cells #[.slice (some ⟨w.heap.size,0,none⟩) 56 64,.slice (some ⟨w.heap.size,60,none⟩) 4 4] 68)) trivial ?_ jN;simp only[jq];refine jW [1] ?_;refine jC 1 (.call { callee:=.value (.func 159),args:=#[.tmp 32,.const (.int .i64 4)],argTypes:=#[276,3] }) (some 33) 159 (#[.pointer (some ⟨r,0,none⟩),.int .i64 4]) ?_ jN;refine(gV r v5 (s.drop 56) false 4 (w5.drew.alloc (.cells #[.slice (some ⟨w.heap.size,0,none⟩) 56 64,.slice (some ⟨w.heap.size,60,none⟩) 4 4] 68)) (O.alloc _) k2 (by rw[a2.out];omega) (by omega) (by omega)).mono ?_;rintro e w6 ⟨K,⟨_,_,v6,rfl,b0⟩|⟨j,_,_⟩⟩
          rotate_left 1
          · exact absurd j (by rw[a2.out];simp)
          refine⟨_,rfl,trivial,λhH=>?_⟩;simp only[jq];have n0:=PI w5.drew s x a7.out;have f7:=jz (MA n0 (a7.alloc (.cells #[.slice (some ⟨w.heap.size,0,none⟩) 56 64,.slice (some ⟨w.heap.size,60,none⟩) 4 4] 68)) (O.alloc (.cells #[.slice (some ⟨w.heap.size,0,none⟩) 56 64,.slice (some ⟨w.heap.size,60,none⟩) 4 4] 68)).1 g1 K d0 (by have:=m3.out;show w5.heap.size≠r;omega));have b1:=(a9.alloc (.cells #[.slice (some ⟨w.heap.size,0,none⟩) 56 64,.slice (some ⟨w.heap.size,60,none⟩) 4 4] 68)).offB (O.alloc (.cells #[.slice (some ⟨w.heap.size,0,none⟩) 56 64,.slice (some ⟨w.heap.size,60,none⟩) 4 4] 68)).1 g1 K;have h4:=I.alloc I.size (.cells #[.slice (some ⟨w.heap.size,0,none⟩) 56 64,.slice (some ⟨w.heap.size,60,none⟩) 4 4] 68);have a6:Bw w w6:=h4.trans (K.below a0 h4.size);refine jW [5] ?_;refine jC 5 (.call { callee:=.value (.func 331),args:=#[.tmp 36],argTypes:=#[261] }) (some 37) 331 (#[.slice (some ⟨w5.drew.heap.size,0,none⟩) 2 2]) ?_ jN;refine(BL _ [(.slice (some ⟨w.heap.size,0,none⟩) 56 64,s.take 56),(.slice (some ⟨w.heap.size,60,none⟩) 4 4,s.drop 60)] _ f7 (by simp) k4 m1).mono ?_;rintro e w7 ⟨rfl,J⟩;rw[k3.out];refine⟨_,rfl,trivial,λhH=>?_⟩;simp only[jq];refine jT 6 (.convert 51 141 (.tmp 37)) (some 38) (.int .u64 (cC (s.take 56++s.drop 60))) hH ?_;simp only[jq];refine jT 7 (.binOp .neq 141 (.tmp 33) (.tmp 38) 141) (some 39) (.bool (((beN ((s.drop 56).take 4):Nat):Int) != ((cC (s.take 56++s.drop 60):Nat):Int))) hH ?_;simp only[jq];refine wpAnyH_done (by kernel_rfl) ?_ _;have V:=jz (b0.keep J);have g0:=jz (b1.below J);have U:=jz (aA a6 J);clear n0 b1 a6 b0 K J h4;by_cases e3:beN ((s.drop 56).take 4)=cC (s.take 56++s.drop 60)
          rotate_left 1
          · have t3:(((beN ((s.drop 56).take 4):Nat):Int) != ((cC (s.take 56++s.drop 60):Nat):Int))=true:=bne_iff_ne.2 (by omega);rw[t3];go_wp2_with fail
            go_step3
            simp only[Exit.then,Exit.inBlock];refine⟨rfl,U,?_,?_⟩
            · unfold prs;rw[<- HN.out,jQ (by omega),jQ (by rw[d7.out];simp),jP e3]
            · iterate 44 apply Exists.intro
              rfl
          · have t3:(((beN ((s.drop 56).take 4):Nat):Int) != ((cC (s.take 56++s.drop 60):Nat):Int))=false:=by rw[e3];exact bne_self_eq_false _
            rw[t3];have q7:IntKind.u32.wrap (beN ((s.drop 60).take 4):Int)=(beN ((s.drop 60).take 4):Int):=IntWalk.u32_in _ (by have:=f1.out;omega);go_wp2_with fail
            refine(gV r v6 (s.drop 60) false 4 w7 (by have:=V.out;rw[a3.out] at this;exact this) a1 (by rw[D.out];omega) (by omega) (by omega)).mono ?_;rintro e w8 ⟨Z,⟨_,_,v8,rfl,g3⟩|⟨j,_,_⟩⟩
            rotate_left 1
            · exact absurd j (by rw[D.out];simp)
            obtain⟨A6,c6,e6,_,_,_⟩:=id V.out.2;have f9:=jz (g0.offB V.out.1 e6 Z);have f5:Hid (Bw w w8):=jz (U.trans (Z.below a0 U.size));clear Z g3 e6;go_wp2_with fail
            simp only[Exit.jump]
            go_ret3
            refine⟨f5,.inr ⟨_,(s.drop 2).take n,x4,?_,rfl,?_⟩⟩
            · unfold prs;rw[<- HN.out,jQ (by omega),jQ (by rw[d7.out];simp),jQ (λh=>h e3)]
            · have:=f9.out;rw[jv,a8.out,Nat.min_eq_left (by omega)];exact this
        · refine(gV r v5 (s.drop 56) false 4 w5.drew O k2 (by rw[a2.out];omega) (by omega) (by omega)).mono ?_;rintro e w6 ⟨K,⟨_,_,v6,rfl,b0⟩|⟨j,_,_⟩⟩
          rotate_left 1
          · exact absurd j (by rw[a2.out];simp)
          refine⟨_,rfl,trivial,λhH=>?_⟩;simp only[jq];have m9:=K.blk a7 d0;have b1:=a9.offB O.out.1 g1 K;have a6:Bw w w6:=I.trans (K.below a0 I.size);refine jW [4] ?_;refine jS 4 (.buildSlice 261 2 #[(0,.tmp 34),(1,.tmp 35)]) (some 36) (.slice (some ⟨w6.heap.size,0,none⟩) 2 2) (w6.alloc (.cells #[.slice (some ⟨w.heap.size,0,none⟩) 56 64,.slice (some ⟨w.heap.size,60,none⟩) 4 4] 68)) trivial ?_ jN;simp only[jq];have f7:=jz (PI w6 s x m9);refine jW [5] ?_;refine jC 5 (.call { callee:=.value (.func 331),args:=#[.tmp 36],argTypes:=#[261] }) (some 37) 331 (#[.slice (some ⟨w6.heap.size,0,none⟩) 2 2]) ?_ jN;refine(BL _ [(.slice (some ⟨w.heap.size,0,none⟩) 56 64,s.take 56),(.slice (some ⟨w.heap.size,60,none⟩) 4 4,s.drop 60)] _ f7 (by simp) k4 m1).mono ?_;rintro e w7 ⟨rfl,J⟩;rw[k3.out];refine⟨_,rfl,trivial,λhH=>?_⟩;simp only[jq];refine jT 6 (.convert 51 141 (.tmp 37)) (some 38) (.int .u64 (cC (s.take 56++s.drop 60))) hH ?_;simp only[jq];refine jT 7 (.binOp .neq 141 (.tmp 33) (.tmp 38) 141) (some 39) (.bool (((beN ((s.drop 56).take 4):Nat):Int) != ((cC (s.take 56++s.drop 60):Nat):Int))) hH ?_;simp only[jq];refine wpAnyH_done (by kernel_rfl) ?_ _;have V:=jz ((b0.alloc (.cells #[.slice (some ⟨w.heap.size,0,none⟩) 56 64,.slice (some ⟨w.heap.size,60,none⟩) 4 4] 68)).keep J);have g0:=jz ((b1.alloc (.cells #[.slice (some ⟨w.heap.size,0,none⟩) 56 64,.slice (some ⟨w.heap.size,60,none⟩) 4 4] 68)).below J);have U:=jz (aA (a6.alloc a6.size (.cells #[.slice (some ⟨w.heap.size,0,none⟩) 56 64,.slice (some ⟨w.heap.size,60,none⟩) 4 4] 68)) J);clear m9 b1 a6 b0 K J;by_cases e3:beN ((s.drop 56).take 4)=cC (s.take 56++s.drop 60)
          rotate_left 1
          · have t3:(((beN ((s.drop 56).take 4):Nat):Int) != ((cC (s.take 56++s.drop 60):Nat):Int))=true:=bne_iff_ne.2 (by omega);rw[t3];go_wp2_with fail
            go_step3
            simp only[Exit.then,Exit.inBlock];refine⟨rfl,U,?_,?_⟩
            · unfold prs;rw[<- HN.out,jQ (by omega),jQ (by rw[d7.out];simp),jP e3]
            · iterate 44 apply Exists.intro
              rfl
          · have t3:(((beN ((s.drop 56).take 4):Nat):Int) != ((cC (s.take 56++s.drop 60):Nat):Int))=false:=by rw[e3];exact bne_self_eq_false _
            rw[t3];have q7:IntKind.u32.wrap (beN ((s.drop 60).take 4):Int)=(beN ((s.drop 60).take 4):Int):=IntWalk.u32_in _ (by have:=f1.out;omega);go_wp2_with fail
            refine(gV r v6 (s.drop 60) false 4 w7 (by have:=V.out;rw[a3.out] at this;exact this) a1 (by rw[D.out];omega) (by omega) (by omega)).mono ?_;rintro e w8 ⟨Z,⟨_,_,v8,rfl,g3⟩|⟨j,_,_⟩⟩
            rotate_left 1
            · exact absurd j (by rw[D.out];simp)
            obtain⟨A6,c6,e6,_,_,_⟩:=id V.out.2;have f9:=jz (g0.offB V.out.1 e6 Z);have f5:Hid (Bw w w8):=jz (U.trans (Z.below a0 U.size));clear Z g3 e6;go_wp2_with fail
            simp only[Exit.jump]
            go_ret3
            refine⟨f5,.inr ⟨_,(s.drop 2).take n,x4,?_,rfl,?_⟩⟩
            · unfold prs;rw[<- HN.out,jQ (by omega),jQ (by rw[d7.out];simp),jQ (λh=>h e3)]
            · have:=f9.out;rw[jv,a8.out,Nat.min_eq_left (by omega)];exact this
theorem X0{w:Wd}{g:Nat}{t:TypeId}{q:Wl×Int}(h:Blk w g t (aO q).toArray)(I:EntOk q):Sn w 1 (.slice (some ⟨g,0,none⟩) 32 32) 32 (u8s q.1):=
 ⟨_,32,rfl,ja _,by rw[aJ,I.dig.len],λ_=>⟨g,0,rfl,λj u D=>by
  rw[h.cell,Nat.zero_add]
  have x:=(List.getElem?_eq_some_iff.1 D).1
  simp only[jf,aO,cW]
  rw[jy x]
  exact D⟩⟩
theorem DZ{w:Wd}{a b o:Nat}{i:Nat}{v:Value}{vs:Wv}(h:w.cell? ⟨a,i,none⟩=some v)(j:a≠b:=by omega):(w.setCells b o vs).cell? ⟨a,i,none⟩=some v:=
 (cD b vs o w).cell h j
theorem vP(g x:Nat)(q:Wl×Int)(w:Wd)(hq:EntOk q)(hx:q.2=x)(c7:x<=4611686018427387904)(hg:g<4294967296):
  Wc 289 #[.int .u32 g,.agg (aO q).toArray] w (Rt w (.tuple #[.agg (u8s (rec g (q.1++beB 8 x))).toArray,.bool true])):=by
 have HQ:=jz hq;have HG:=jz hg;have f5:=bC q hq;have a8:Hid ((q.1++beB 8 x).length=40):=jz (by rw[jj,bR,hq.dig.len]);have a1:Hid ((u8s (rec g (q.1++beB 8 x))).length=64):=jz (by rw[aJ,kI g _ (by rw[a8.out];omega)]);have d2:Hid (Bys (q.1++beB 8 x)):=jz (λb hb=>by
  rcases List.mem_append.1 hb with hb|hb
  ·exact hq.dig.byte b hb
  ·exact jD _ _ b hb)
 have e1:Hid (x<256 ^ 8):=jz (by have e8:(256:Nat) ^ 8=18446744073709551616:=(by decide);omega);have f1:(0:Int)<=q.2:=by omega
 have f2:q.2<=4611686018427387904:=by omega
 have f3:IntKind.u64.wrap q.2=(x:Int):=by rw[hx];exact IntWalk.u64_in _ (by omega)
 obtain⟨w1,Z⟩:=je ((w.alloc (.cells (aO q).toArray 172)).alloc (.cells z64 243));have a2:Blk w1 w.heap.size 172 (aO q).toArray:=by rw[Z];exact(Blk.new w _ _).alloc _
 have I:Blk w1 (w.heap.size+1) 243 z64:=by rw[Z];exact Blk.newAt _ _ _ _ (by simp)
 have c3:Bw w w1:=by rw[Z];exact((ji _ w).alloc (ja _) _).alloc (by simp) _
 have a5:w1.cell? ⟨w.heap.size,32,none⟩=some (.int .i64 q.2):=by
  rw[a2.cell];have f0:(u8s q.1).length=32:=by rw[aJ,hq.dig.len]
  simp only[jf,aO,cW];rw[jx (by omega),f0];rfl
 have c9:Hid (Blk w1.drew w.heap.size 172 (aO q).toArray):=jz a2;have d0:Hid (Blk w1.drew (w.heap.size+1) 243 z64):=jz I;have d1:Hid (Bw w w1.drew):=jz c3.drew;have d5:Hid (w1.drew.cell? ⟨w.heap.size,32,none⟩=some (.int .i64 q.2)):=jz a5;subst Z;clear a2 I c3 hq hg hx c7;go_enter func289,ntmps289
 go_wp2_with (refine al 243 z64 rfl rfl dL ?_)
 refine bQ 14 (λw'=>w'.cell? ⟨w.heap.size,32,none⟩=some (.int .i64 q.2)) (by kernel_rfl) (by kernel_rfl) (d5) (λj=>?_);refine jM 0 (.tmp 0) (some 15) (.int .u32 g) j ?_;simp only[jq];refine jT 1 (.fieldAddr 172 (.tmp 3) 0) (some 16) (.pointer (some ⟨w.heap.size,0,none⟩)) j ?_;simp only[jq];refine jT 2 (.slice 26 (.tmp 16) none none none) (some 17) (.slice (some ⟨w.heap.size,0,none⟩) 32 32) j ?_;simp only[jq];refine jT 3 (.fieldAddr 172 (.tmp 3) 1) (some 18) (.pointer (some ⟨w.heap.size,32,none⟩)) j ?_;simp only[jq];refine jT 4 (.load 2 (.tmp 18)) (some 19) (.int .i64 q.2) j ?_;simp only[jq];refine jT 5 (.convert 2 141 (.tmp 19)) (some 20) (.int .u64 (x:Int)) j ?_;simp only[jq];refine jW [6] ?_;refine jC 6 (.call { callee:=.value (.func 319),args:=#[.const (.int .i64 8),.tmp 20],argTypes:=#[3,141] }) (some 21) 319 (#[.int .i64 8,.int .u64 x]) ?_ jN;refine(jE 8 x _ (by omega) (by omega) e1).mono ?_;rintro e w2 ⟨vv,rfl,J,U⟩;obtain⟨R,O,e2,_⟩:=J.form (by omega);subst e2;refine⟨_,rfl,j9 U j,λj=>?_⟩;simp only[jq];have I:=c9.keep U;have a0:=d0.keep U;have b0:=aA d1 U;have d7:Hid (Parts (w2.alloc (.cells #[.slice (some ⟨w.heap.size,0,none⟩) 32 32,.slice (some ⟨R,0,none⟩) 8 O] 68)) (.slice (some ⟨w2.heap.size,0,none⟩) 2 2) [(.slice (some ⟨w.heap.size,0,none⟩) 32 32,q.1),(.slice (some ⟨R,0,none⟩) 8 O,beB 8 x)]):=jz ⟨Sn.new w2 #[.slice (some ⟨w.heap.size,0,none⟩) 32 32,.slice (some ⟨R,0,none⟩) 8 O] 68 1 2 rfl,λz hz=>by
  simp only[jl,j8,or_false] at hz
  rcases hz with rfl|rfl
  ·have:=(X0 I HQ).alloc (.cells #[.slice (some ⟨w.heap.size,0,none⟩) 32 32,.slice (some ⟨R,0,none⟩) 8 O] 68)
   rw[HQ.dig.len]
   exact this
  ·have:=(Sn.own J).alloc (.cells #[.slice (some ⟨w.heap.size,0,none⟩) 32 32,.slice (some ⟨R,0,none⟩) 8 O] 68)
   simp only[bR]
   exact this⟩
 have c4:cat [(Value.slice (some ⟨w.heap.size,0,none⟩) 32 32,q.1),(Value.slice (some ⟨R,0,none⟩) 8 O,beB 8 x)]=q.1++beB 8 x:=by simp[cat]
 have c5:eB [(Value.slice (some ⟨w.heap.size,0,none⟩) 32 32,q.1),(Value.slice (some ⟨R,0,none⟩) 8 O,beB 8 x)]=(q.1++beB 8 x).length:=by simp[eB]
 have D:=jz (And.intro c4 c5);have V:Bw w2 (w2.alloc (.cells #[.slice (some ⟨w.heap.size,0,none⟩) 32 32,.slice (some ⟨R,0,none⟩) 8 O] 68)):=(ji _ _).alloc (ja _) _;refine jW [7] ?_;refine jS 7 (.buildSlice 261 2 #[(0,.tmp 17),(1,.tmp 21)]) (some 22) (.slice (some ⟨w2.heap.size,0,none⟩) 2 2) (w2.alloc (.cells #[.slice (some ⟨w.heap.size,0,none⟩) 32 32,.slice (some ⟨R,0,none⟩) 8 O] 68)) (j9 V j) ?_ jN;simp only[jq];replace j:=j9 V j;refine jW [8] ?_;refine jC 8 (.call { callee:=.value (.func 167),args:=#[.tmp 22],argTypes:=#[261] }) (some 23) 167 (#[.slice (some ⟨w2.heap.size,0,none⟩) 2 2]) ?_ jN;refine(lX _ [(.slice (some ⟨w.heap.size,0,none⟩) 32 32,q.1),(.slice (some ⟨R,0,none⟩) 8 O,beB 8 x)] _ d7 (by simp) (by rw[D.out.2,jj,bR,HQ.dig.len];omega)).mono ?_;rintro e w3 ⟨v3,rfl,K,a3⟩;rw[D.out.1,D.out.2] at K;refine⟨_,rfl,j9 a3 j,λj=>?_⟩;simp only[jq];refine jW [9] ?_;refine jC 9 (.call { callee:=.value (.func 313),args:=#[.tmp 15,.tmp 23],argTypes:=#[51,68] }) (some 24) 313 (#[.int .u32 g,v3]) ?_ jN;refine(vO g v3 (q.1++beB 8 x) w3 (Sn.own K) d2 (by rw[a8.out];omega) HG).mono ?_;rintro e w4 ⟨rfl,a4⟩;refine⟨_,rfl,j9 a4 j,λj=>?_⟩;simp only[jq];refine jT 10 (.extract (.tmp 24) 0) (some 25) (.agg (u8s (rec g (q.1++beB 8 x))).toArray) j ?_;simp only[jq];refine jT 11 (.extract (.tmp 24) 1) (some 26) (.bool true) j ?_;simp only[jq];have b1:=aA (aA (aA b0 V) a3) a4;have a9:=((a0.keep V).keep a3).keep a4;have a7:=cH a9 (off:=0) (n:=(u8s (rec g (q.1++beB 8 x))).length) (by rw[a1.out,cX];exact ja _);refine jW [12] ?_;refine jR 12 243 (.tmp 4) (.tmp 25) none (cs:=u8s (rec g (q.1++beB 8 x))) a7 (by rw[a1.out];kernel_rfl) (bS _) (DZ j) ?_ jN;simp only[jq];replace j:=DZ (b:=w.heap.size+1) (o:=0) (vs:=u8s (rec g (q.1++beB 8 x))) j;refine jT 13 (.assign (.tmp 26)) (some 5) (.bool true) j ?_;simp only[jq];refine wpAnyH_done (by kernel_rfl) ?_ _;have a6:=World.rangeAt_setCells_same w4 (w.heap.size+1) 0 (u8s (rec g (q.1++beB 8 x))) a7;have b7:=b1.trans (aU (Nat.le_succ w.heap.size) (u8s (rec g (q.1++beB 8 x))) 0 w4).1;obtain⟨w9,c6⟩:=je (w4.setCells (w.heap.size+1) 0 (u8s (rec g (q.1++beB 8 x))));rw[<- c6] at a6 b7 ⊢;clear c6 a7 a9 a0 I j;have e0:=jz a6;clear a6;go_wp2_with fail
 refine bodyPost_ret (aC rfl _ rfl e0 underlying243 rfl (by rw[a1.out];kernel_rfl)) rfl ⟨rfl,b7⟩
def room(z:Int):Int:=if z<1 then 0 else z-1
theorem rU(f z:Int)(w:Wd)(D:aE z):
  Wc 288 #[.agg #[.int .i64 f,.int .i64 z]] w (Rt w (.int .i64 (room z))):=by
 have j:Bw w (w.alloc (.cells #[.int .i64 f,.int .i64 z] 324)):=(ji _ w).alloc (ja _) _;have I:=(Blk.new w 324 #[.int .i64 f,.int .i64 z]).cell 1;simp only[jf,jh,jg] at I;have h1 : -9223372036854775808<=z:=D.1;have J:z<=9223372036854775807:=D.2;rcases jb (decide (z<1)) with x|x
 ·go_enter func288,ntmps288
  go_wp2_with fail
  go_ret;exact⟨by unfold room;rw[jP (of_decide_eq_true x)];rfl,j⟩
 ·have K:1<=z:=by have:=of_decide_eq_false x;omega
  go_enter func288,ntmps288
  go_wp2_with fail
  go_ret;exact⟨by unfold room;rw[jQ (by omega)];rfl,j⟩
def cS(q:Wl×Int):Bool:=decide (0<=q.2) && decide (q.2<=4611686018427387904)
def toll:Wl:=[84,79,76,76]
theorem BM(g:Nat)(w:Wd)(hg:g<4294967296):
  Wc 265 #[.int .u32 g] w (Rt w (.agg (u8s (rec g toll)).toArray)):=by
 have HG:=jz hg;have x:(u8s (rec g toll)).length=64:=by rw[aJ,kI g toll (by decide)]
 have h1:=dN (rec g toll);have hz:z64.size=(u8s (rec g toll)).toArray.size:=by rw[cX];simp[x]
 have K:Bw w (w.alloc (.cells z64 243)):=(by repeat (first|exact ji _ _|assumption|refine cA ?_ _|refine Below.setCell ?_ (by first|exact ja _|assumption|omega|(simp <;> omega)) _|refine Below.alloc ?_ (by first|exact ja _|assumption|omega|(simp <;> omega)) _));have R:=Blk.new w 243 z64;have D:(w.alloc (.cells z64 243)).heap.size=w.heap.size+1:=by simp
 clear hg;have a2:=λW:Wd=>Lib.run_convert_bytes_const (P:=prog) W 68 5 #[.int .u8 84,.int .u8 79,.int .u8 76,.int .u8 76] 4 4 underlying68 underlying5
 have I:=a2 (w.alloc (.cells z64 243));simp only[D] at I;clear a2;go_enter func265,ntmps265
 go_wp2_with (refine al 243 z64 rfl rfl dL ?_)
 have J:Sn ((w.alloc (.cells z64 243)).alloc (.cells #[.int .u8 84,.int .u8 79,.int .u8 76,.int .u8 76] 5 (4,5))) 1 (.slice (some ⟨w.heap.size+1,0,none⟩) 4 4) toll.length (u8s toll):=by
  refine⟨_,4,rfl,ja _,rfl,λ_=>⟨_,0,rfl,λj u hj=>?_⟩⟩;have hh:=heap_alloc_new (w.alloc (.cells z64 243)) (.cells #[.int .u8 84,.int .u8 79,.int .u8 76,.int .u8 76] 5 (4,5));rw[D] at hh;rw[cell_of_row _ _ _ _ _ _ hh,Nat.zero_add];simpa [toll,u8s] using hj
 have a1:Bw w ((w.alloc (.cells z64 243)).alloc (.cells #[.int .u8 84,.int .u8 79,.int .u8 76,.int .u8 76] 5 (4,5))):=K.alloc K.size _;have U:=R.alloc (.cells #[.int .u8 84,.int .u8 79,.int .u8 76,.int .u8 76] 5 (4,5));refine(vO g _ toll _ J (λb hb=>by simp only[toll,jl,j8,or_false] at hb;omega) (by decide) HG).mono ?_;rintro e w2 ⟨rfl,O⟩;have Z:=aA a1 O;have a3:=jz (U.keep O);clear a1 O U K R J D I;go_wp2_with (first
  | (refine al 243 z64 rfl rfl dL ?_)
  | (refine bZ 243 (.tmp 3) (.tmp 10) rfl rfl rfl rfl (by simp only[js,x];kernel_rfl) hz h1 ?_;intro w3 a6 a0 a9;have a5:=jz (Blk.range a6);have a4:=jz (a3.keep a0))
  | (refine ld 243 _ rfl rfl rfl a5 underlying243 rfl (by rw[jt,x];kernel_rfl) ?_)
  | (refine aP 243 (.tmp 2) (.tmp 12) rfl rfl rfl rfl a4 (by simp only[jt,js,x];kernel_rfl) (by rw[jt];exact hz) (by rw[jt];exact h1) ?_;intro wZ V a8 _ _))
 have a7:=(aA Z a0).trans a8
 try rw[jt] at V
 refine bodyPost_ret (results_cell_row rfl _ _ w.heap.size 243 _ (0,0) _ rfl V underlying243 rfl (by simp only[js,x];kernel_rfl)) rfl ⟨rfl,a7⟩
end Go.Proofs.YtiaigidbcljblaaGreatDoor
