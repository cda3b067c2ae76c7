import Derived.Test.YtjjlaipkkdncfaaGreatDoorMV26
set_option linter.unusedVariables false
set_option linter.unusedSimpArgs false
set_option maxRecDepth 100000
set_option maxHeartbeats 40000000
namespace Go.Proofs.YtjjlaipkkdncfaaGreatDoor
open Go.Proofs.Tryz
open Go.RowKit
attribute [local irreducible] wpQuiet wpAnyH
theorem TP(s:ByteArray):Lib.strCells s=n8 (bn s):=by unfold n8 bn;rw[List.map_map];rfl
theorem OV{ops:Array Oper}{rest:List Oper}{o:Oper}{a:Act}{w:Wd}{Q:Exit->Act->Wd->Prop}(p q:Operand)(ho:o.op = .call { callee:=.builtin .append,args:=#[p,q],argTypes:=#[60,9] })(hw:Region.wanted o (yielded ops a.tmps)=true)
  {base n:Nat} {v:Value} {R:Wv} {s:ByteArray} (hv:a.eval p=v) (I:w.ownsRow base 5 1 v n R) (hx:a.eval q = .string s) (Z:n+s.size<=1000000000) (D:base<=w.heap.size)
  (h:∀ v' w',w'.ownsRow base 5 1 v' (n+s.size) (R++n8 (bn s))->w.grownBy w' v.ownBlock->wpList prog ops Q rest (a.put o.dst v') w'):wpList prog ops Q (o :: rest) a w:=by
 refine wpList_step λK hK=>?_
 rw[jP hw];obtain⟨i,hi,hz,O,J⟩:=info_parts (P:=prog) (e:=5) (z:=.int .u8 0) (size:=1) (bytes:=1) (by kernel_rfl);obtain⟨v',w',hrun,U,V,_⟩:=Lib.run_append_own_string (P:=prog) w base 60 9 o.type 5 i underlying60 underlying9 hi hz O J v n R I s (by unfold maxLen;omega) (by omega) D;rw[TP] at U;unfold Oper.wp execOp;simp only[ho,resolve,invoke,builtin,Sem.run_bind,Sem.run_pure,Result.andThen_ok,List.map_toArray,List.map_cons,List.map_nil,hv,hx,hrun];exact hK _ _ (h v' w' U V)
theorem OW{w:Wd}{base e m n cap:Nat}{A:Option Addr}{K:Wv}(h:w.ownsRow base e 1 (.slice A m cap) m K)(Z:n<=m):w.ownsRow base e 1 (.slice A n cap) n (K.take n):=by
 obtain⟨U,h|⟨g,c,D,hv,hb,hg,V,R,I,J⟩⟩:=h
 ·obtain⟨h1,O⟩:=h;injection h1 with h1 h3 h4
  subst h1 h4 O;obtain rfl:n=0:=by omega
  exact⟨by rw[List.take_zero];rfl,.inl ⟨rfl,rfl⟩⟩
 ·injection hv with h1 h3 h4
  subst h1 h4;refine⟨by rw[jv,U];omega,.inr ⟨g,cap,D,rfl,hb,hg,by omega,R,I,?_⟩⟩;rw[<- J,List.take_take,show min n (m*1)=n*1 from by omega]
def dvL(D:List Nat)(k:Nat):List Nat:=if k=0 then [] else D
theorem rY(vk:Value)(key:List Nat)(s:ByteArray)(n:Nat)(w:Wd)(hs:Sn w 1 vk key.length (n8 key))(b2:Byn key)(c7:key.length<=64)(f1:s.size<=100)(f0:1<=n)(hn:n<=32):
  Wc 87 #[vk,.string s,.int .i64 n] w λe w'=>∃ v,e = .returned v/\w'.ownsRow w.heap.size 5 1 v n (n8 ((d6 key (1 :: bn s)).take n))/\Bw w w':=by
 obtain⟨Ak,a6,rfl,c6,_,_⟩:=id hs;have HS:=jz hs;have c3:=jz b2;clear hs b2;have e0:(1:Int)<=n:=by omega
 have e2:(n:Int)<=32:=by omega
 have e3:¬(n:Int)<0:=by omega
 have e4:¬(8160:Int)<n:=by omega
 obtain⟨D,hD⟩:=je (d6 key (1 :: bn s));have I:D.length=32:=by rw[hD];exact bL _
 rw[<- hD];have HC:Hid (∀ W v,Bw w W->Sn W 1 v (1 :: bn s).length (n8 (1 :: bn s))->Wc 89 #[.slice Ak key.length a6,v] W (Rt W (.agg (n8 D).toArray))):=jz (λW v hW h=>by
  rw[hD]
  exact DC _ v key (1 :: bn s) W (HS.below hW) h c7 c3 (λx hx=>by
   rcases List.mem_cons.1 hx with rfl|hx
   ·decide
   ·exact ET s x hx) (by rw[List.length_cons,eF];omega))
 have a0:(1 :: bn s).length=1+s.size:=by rw[List.length_cons,eF];omega
 have d4:=jz a0;obtain⟨BN,R⟩:∃ b,b=1 :: bn s:=⟨_,rfl⟩;have a3:Hid (n8 BN=[.int .u8 1]++n8 (bn s)/\BN.length=1+s.size):=jz ⟨by rw[R];rfl,by rw[R];exact a0⟩;rw[<- R] at HC;clear hD a0 R;go_enter func87,ntmps87
 go_wp2_with fail
 go_loopw [7,8] (λv i wr=>∃ k:Nat,k<=n/\i = .int .i64 (k:Int)/\Hid (wr.ownsRow w.heap.size 5 1 v (dvL D k).length (n8 (dvL D k))/\Bw w wr)) (λ_ i _=>n-(intOf i).toNat)
 case atStart=>exact⟨0,j0 _,rfl,jz ⟨⟨rfl,.inl ⟨rfl,rfl⟩⟩,ji _ _⟩⟩
 case round=>
  obtain⟨k,hk,rfl,U⟩:=hrel;obtain⟨A0,c0,d1,K,_⟩:=aM U.out.1;subst d1;obtain⟨L,hL⟩:=je ((dvL D k).length);rw[<- hL] at U K ⊢;rcases jo k n with e7|d7
  ·have e5:(k:Int)<n:=by omega
   rcases Nat.eq_zero_or_pos k with b1|e6
   ·subst b1;obtain rfl:L=0:=hL;have J:Hid (wr.ownsRow w.heap.size 5 1 (.slice A0 0 c0) 0 []/\Bw w wr):=U;have hlit:(wr.alloc (.cells #[.int .u8 1] 5)).ownsRow wr.heap.size 5 1 (.slice (some ⟨wr.heap.size,0,none⟩) 1 1) 1 [.int .u8 1]:=iP wr #[.int .u8 1] _ 1 1 _ _ (ja _) rfl (by decide) rfl;have b9:z8x32.size=(n8 D).toArray.size:=by rw[show(n8 D).toArray.size=32 from by rw[js,aJ,I]];exact aC 32 _
    have a1:(prog.info? 23).map (·.size)=some (n8 D).toArray.size:=by rw[js,aJ,I];kernel_rfl
    have b3:=all_oneCell_toArray (bK D);obtain⟨O1,Z⟩:=je ((n8 D).toArray);rw[<- Z] at b9 a1 b3 HC;have c4:=jz Z;have c2:=jz a1;clear Z a1 U;go_upto_region 9 with (first
     | (at_builtin;refine OV (.tmp 29) (.tmp 30) rfl (by rfl) (base:=wr.heap.size) (by rfl) hlit (by rfl) (by omega) (by simp) ?_;intro v3 w3 hown hg;have HW3:Hid (Bw wr w3/\w3.ownsRow wr.heap.size 5 1 v3 BN.length (n8 BN)):=jz ⟨((ji _ wr).alloc (ja _) _).grown hg (by simp) (λg e=>by cases e;exact ja _),by rw[a3.out.1,a3.out.2];exact hown⟩;clear hown hg)
     | (go_at_call 89;refine(HC w3 _ (aB J.out.2 HW3.out.1) (Sn.own HW3.out.2)).mono ?_;rintro e w4 ⟨rfl,a8⟩;have a2:=jz (aB HW3.out.1 a8);clear a8)
     | (refine al 23 _ rfl rfl eB ?_)
     | (refine bQ (cells:=O1) 23 (.tmp 9) (.tmp 32) rfl rfl (by rfl) (by rfl) c2 b9 b3 ?_;intro w5 a7 a9 d0;have V:=jz a7;have a4:=jz a9;clear a7 a9 d0))
    obtain⟨g4,b0⟩:=je w4.heap.size;rw[<- b0] at V ⊢;have O:Hid (Bw wr w5/\Sn w5 1 (.slice (some ⟨g4,0,none⟩) 32 32) 32 (n8 D)):=jz ⟨aB a2 a4,by
     have h:=V.out
     rw[c4.out] at h
     have h2:=Blk.range h
     rw[jt] at h2
     have h3:=xQ 32 I h2
     rw[I] at h3
     exact h3⟩
    have a5:Hid (w.heap.size<=w5.heap.size):=jz (by have:=J.out.2.size;have:=O.out.1.size;omega);clear b0 a2 V a4 hlit;go_wp2_with (at_builtin;refine app fQ (.tmp 33) (.tmp 34) rfl (by rfl) (base:=w.heap.size) (by rfl) (aE J.out.1 O.out.1) (by rfl) O.out.2 (bK D) (by decide) (by omega) a5 ?_;intro v6 w6 hown hg c5;have HN:Hid (w6.ownsRow w.heap.size 5 1 v6 (dvL D 1).length (n8 (dvL D 1))/\Bw w w6):=jz ⟨by rw[show dvL D 1=D from rfl,I];exact hown,(aB J.out.2 O.out.1).grown hg a5 (λk hk=>(J.out.1.lt k hk).1)⟩;clear hown hg c5)
    exact⟨⟨1,by omega,rfl,HN⟩,by simp[intOf];omega⟩
   ·have hm:¬(k:Int) % 32=0:=by omega
    have e8:¬Int.tmod (k:Int) 32=0:=by rw[Int.tmod_eq_emod_of_nonneg (by omega)];omega
    have b1:(0:Int)<k:=by omega
    have HN:Hid (wr.ownsRow w.heap.size 5 1 (.slice A0 L c0) (dvL D (k+1)).length (n8 (dvL D (k+1)))/\Bw w wr):=jz (by
     have h:=U.out
     rw[hL] at h ⊢
     have e:dvL D k=dvL D (k+1):=by unfold dvL;rw[jQ (by omega),jQ (by omega)]
     rw[e] at h ⊢
     exact h)
    clear U;go_wp2_with fail
    exact⟨⟨k+1,by omega,by go_num,HN⟩,by simp[intOf];omega⟩
  ·have c9:k=n:=by omega
   subst c9;have d3:¬(k:Int)<k:=by omega
   have h:=U.out;have e:dvL D k=D:=by unfold dvL;rw[jQ (by omega)]
   obtain rfl:L=32:=by rw[hL,e,I]
   rw[e] at h;have b7:=K;have d5:32<=c0:=by obtain⟨A1,c1,e1,h1,_⟩:=b7;injection e1 with _ _ e1;omega
   have d2:(k:Int)<=c0:=by omega
   have HT:=jz (And.intro (OW h.1 hn) h.2);clear U h b7 K hL;go_wp2_with fail
   go_ret;exact⟨_,rfl,by rw[<- s6];exact HT.out.1,HT.out.2⟩
end Go.Proofs.YtjjlaipkkdncfaaGreatDoor
