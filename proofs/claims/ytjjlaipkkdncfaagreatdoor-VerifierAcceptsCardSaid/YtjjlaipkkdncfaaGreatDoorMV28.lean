import Derived.Test.YtjjlaipkkdncfaaGreatDoorMV24
import Derived.Test.YtjjlaipkkdncfaaGreatDoorMV25
set_option linter.unusedVariables false
set_option linter.unusedSimpArgs false
set_option maxRecDepth 100000
set_option maxHeartbeats 40000000
namespace Go.Proofs.YtjjlaipkkdncfaaGreatDoor
open Go.Proofs.Tryz
section
open Go.RowKit
attribute [local irreducible] wpQuiet wpAnyH
@[irreducible] def Stp (p:Prop):Prop:=p
theorem R2{p:Prop}(h:Stp p):p:=by unfold Stp at h;exact h
def dA(s:List Nat):List Nat:=s.take (s.length-16)
def kH(s:List Nat):List Nat:=s.drop (s.length-16)
def iO(key:Nat->Nat)(usage:Nat)(s:List Nat):Option (List Nat):=
 if s.length<24 then none
 else if kH s=(d6 (mkM key) (usage :: dA s)).take 16 then some (arr (s.length-24) (d8 (nth (mkE key)) (nth s) (nth ((dA s).drop 8)) (s.length-24)))
 else none
def DG(w:Wd)(o:Option (List Nat))(e:Ending)(w':Wd):Prop:=Bw w w'/\match o with
 | none=>e = .returned (.tuple #[.slice none 0 0,.bool false])
 | some b=>∃ gb,e = .returned (.tuple #[.slice (some ⟨gb,0,none⟩) b.length b.length,.bool true])/\w.heap.size<=gb/\Blk w' gb 5 (n8 b).toArray
theorem FN(key:Nat->Nat)(D:Nat)(s:List Nat)(v:Value)(w:Wd)(hs:Sn w 1 v s.length (n8 s))(hl:s.length<24):
  Wc 115 #[.agg (arr 16 (c8 key)).toArray,.int .u8 (D:Nat),v] w (DG w (iO key D s)):=by
 have HO:Hid (iO key D s=none):=jz (by unfold iO;rw[jP hl]);have O:=jz (fun(W:Wd) (hb:Bw w W)=>x8 v s W (hs.below hb));rw[decide_eq_false (by omega)] at O;obtain⟨PQ,R⟩:=je (DG w (iO key D s));have a2:=jz R;rw[<- R];obtain⟨w1,I⟩:=je (w.alloc (.cells (arr 16 (c8 key)).toArray 41));have U:Hid (Bw w w1):=jz (by rw[I];exact aV _ _);have a5:prog.arrayLen 100=8:=by kernel_rfl
 have HZ:Hid ((prog.info? 100).map (·.size)=some (arr 8 (c8 (jE s))).toArray.size/\z8x8.size=(arr 8 (c8 (jE s))).toArray.size):=jz ⟨by rw[js,aA];kernel_rfl,by rw[show(arr 8 (c8 (jE s))).toArray.size=8 by simp[arr]];rfl⟩;have J:Hid ((arr 8 (c8 (jE s))).toArray.all (·.oneCell')=true):=jz (aP (λ_=>rfl));obtain⟨K,hK⟩:=je ((arr 16 (c8 key)).toArray);obtain⟨M,hM⟩:=je ((arr 8 (c8 (jE s))).toArray);rw[<- hK] at I ⊢;rw[<- hM] at O HZ J;clear hs hl R hK hM;go_enter func115,ntmps115
 go_upto_region 1 with fail
 rw[<- I];clear I;go_wp2_with (first
  | (go_at_call 164;refine(O w1 U).mono ?_;rintro e w2 ⟨rfl,V⟩;have a0:=jz (aB U V);clear V)
  | (refine al 100 _ rfl rfl zT ?_)
  | (refine bQ 100 (.tmp 8) (.tmp 18) rfl rfl (by rfl) (by rfl) HZ.out.1 HZ.out.2 J ?_;intro w3 a3 Z a4;have a1:=jz (aB a0 Z);clear a3 Z a4))
 first|go_ret2|skip
 rw[a2.out,HO.out];exact⟨a1,rfl⟩
end
section
open Go.RowKit
def i9(xs:Wl):List Nat:=xs.map Int.toNat
theorem dO(D:Wl):(i9 D).length=D.length:=List.length_map _
theorem pM{D:Wl}(h:Bys D):u8s D=n8 (i9 D):=by
 unfold u8s n8 i9;rw[List.map_map];refine List.map_congr_left (λx I=>?_);have h1:=h x I;show Value.int .u8 x=Value.int .u8 ((x.toNat:Nat):Int);rw[Int.toNat_of_nonneg h1.1]
theorem jA{D:Wl}(h:Bys D):Byn (i9 D):=λx I=>by
 obtain⟨y,hy,rfl⟩:=List.mem_map.1 I;have:=h y hy;omega
structure TkD where
 client:Nm
 start:Nat
 fin:Nat
 key:Nat->Nat
structure AuD where
 client:Nm
 time:Nat
 micro:Nat
 seq:Nat
def tk0:TkD:=⟨nm0,0,0,λ_=>0⟩
def au0:AuD:=⟨nm0,0,0,0⟩
structure TkOk(t:TkD):Prop where
 nm:NmOk t.client
 se:t.start<=t.fin
 mx:t.fin<=1099511627776
 key:aQ t.key
structure AuOk(a:AuD):Prop where
 nm:NmOk a.client
 time:a.time<=1099511627776
 micro:a.micro<=999999
 seq:a.seq<4294967296
def tkR(b:Wl):TkD×Bool:=
 if (aF 1 (b,false)).1≠1 then (tk0,false)
 else if (dW (aF 1 (b,false)).2).1.2=false then (tk0,false)
 else
  let s:=(dW (aF 1 (b,false)).2).2
  let x:=aF 8 s
  let y:=aF 8 x.2
  let z:=cW 16 y.2
  if fU z.2=false\/y.1<x.1\/1099511627776<y.1 then (tk0,false)
  else (⟨(dW (aF 1 (b,false)).2).1.1,x.1,y.1,nth (i9 z.1)⟩,true)
def auR(b:Wl):AuD×Bool:=
 if (aF 1 (b,false)).1≠2 then (au0,false)
 else if (dW (aF 1 (b,false)).2).1.2=false then (au0,false)
 else
  let s:=(dW (aF 1 (b,false)).2).2
  let x:=aF 8 s
  let y:=aF 4 x.2
  let z:=aF 4 y.2
  if fU z.2=false\/1099511627776<x.1\/999999<y.1 then (au0,false)
  else (⟨(dW (aF 1 (b,false)).2).1.1,x.1,y.1,z.1⟩,true)
theorem FO{s:RdS}(h:fU s=true):s.2=false:=by
 unfold fU at h;simp only[Bool.and_eq_true,Bool.not_eq_true'] at h;exact h.1
theorem UR{b:Wl}(hb:Bys b)(K:b.length<=1000000)(h:(tkR b).2=true):TkOk (tkR b).1:=by
 have I:RdOk ((b,false):RdS):=⟨hb,K⟩;unfold tkR at h ⊢;split at h
 ·cases h
 rename_i h1;rw[jQ h1];split at h
 ·cases h
 rename_i D;rw[jQ D];simp only at h ⊢;split at h
 ·cases h
 rename_i J;rw[jQ J];have O:NmOk (dW (aF 1 (b,false)).2).1.1:=yI (by simpa using D);have R:=oG ((((tD (I.num 1))).num 8).num 8) 16;exact⟨O,by show(aF 8 _).1<=(aF 8 _).1;omega,by show(aF 8 _).1<=_;omega,dI (jA R.1)⟩
theorem US{b:Wl}(hb:Bys b)(K:b.length<=1000000)(h:(auR b).2=true):AuOk (auR b).1:=by
 have I:RdOk ((b,false):RdS):=⟨hb,K⟩;unfold auR at h ⊢;split at h
 ·cases h
 rename_i h1;rw[jQ h1];split at h
 ·cases h
 rename_i D;rw[jQ D];simp only at h ⊢;split at h
 ·cases h
 rename_i J;rw[jQ J];have O:NmOk (dW (aF 1 (b,false)).2).1.1:=yI (by simpa using D);have R:=CF ((((tD (I.num 1))).num 8).num 4) 4;exact⟨O,by show(aF 8 _).1<=_;omega,by show(aF 4 _).1<=_;omega,R⟩
def tkO(key:Nat->Nat)(s:Wl):TkD×Int:=match iO key 2 (i9 s) with
 | none=>(tk0,2)
 | some b=>if (tkR (aG b)).2 then ((tkR (aG b)).1,0) else (tk0,1)
def auO(key:Nat->Nat)(s:Wl):AuD×Int:=match iO key 11 (i9 s) with
 | none=>(au0,2)
 | some b=>if (auR (aG b)).2 then ((auR (aG b)).1,0) else (au0,1)
def rqO(key:Nat->Nat)(b:Wl):(TkD×AuD)×Int:=
 if (dK b).2.2=false then ((tk0,au0),1)
 else if (tkO key (dK b).1).2≠0 then ((tk0,au0),(tkO key (dK b).1).2)
 else if (auO (tkO key (dK b).1).1.key (dK b).2.1).2≠0 then ((tk0,au0),(auO (tkO key (dK b).1).1.key (dK b).2.1).2)
 else (((tkO key (dK b).1).1,(auO (tkO key (dK b).1).1.key (dK b).2.1).1),0)
def dB(k x:Nat):List Nat:=(beB k x).map Int.toNat
theorem gY(k x:Nat):(dB k x).length=k:=by unfold dB;rw[List.length_map,bE]
def auN(a:AuD):List Nat:=2 :: nmN a.client++dB 8 a.time++dB 4 a.micro++dB 4 a.seq
theorem tG{a:AuD}(h:AuOk a):(auN a).length<=2000:=by
 have:=tE h.nm;unfold auN;simp only[jj,List.length_cons,gY];omega
theorem z2{a:AuD}(h:AuOk a):Byn (auN a):=λx I=>by
 have D:∀ k y,Byn (dB k y):=λk y=>jA (fR k y)
 unfold auN at I;simp only[ju,jl] at I;rcases I with (((h1|h1)|h1)|h1)|h1
 ·omega
 ·exact IG h.nm x h1
 ·exact D _ _ x h1
 ·exact D _ _ x h1
 ·exact D _ _ x h1
def auG(a:AuD):List Nat:=iD (auN a)
end
section
open Go.RowKit
attribute [local irreducible] wpQuiet wpAnyH
theorem KT(key:Nat->Nat)(D:Nat)(s:List Nat)(A:Option Addr)(cap:Nat)(w:Wd)(k4:aQ key)(hu:D<256)(hk:TabK w)(c4:Byn s)(hs:Sn w 1 (.slice A s.length cap) s.length (n8 s))(hl:24<=s.length)(p8:s.length<=1000000):
  Wc 115 #[.agg (arr 16 (c8 key)).toArray,.int .u8 (D:Nat),.slice A s.length cap] w (DG w (iO key D s)):=by
 have HS:=jz hs;obtain⟨A',q2,hv,k1,_,hx⟩:=id hs;injection hv with hA _ hca
 subst hA hca;obtain⟨b,off,rfl,hr⟩:=hx (by omega);have n4:=jz hr;have a3:=jz (fun(W:Wd) (hb:Bw w W)=>x8 (.slice (some ⟨b,off,none⟩) s.length cap) s W (hs.below hb));rw[decide_eq_true hl] at a3;obtain⟨L,hL⟩:=je s.length;obtain⟨E,hE⟩:∃ E:Nat,E=L-16:=⟨_,rfl⟩;have r3:(L:Int)-16=(E:Int):=by omega
 have n6:E<=L/\8<=E/\E+16=L:=by omega
 have m8:=jz hE;have a0:=jz hL;rw[<- hL] at a3 k1 hl p8 ⊢;obtain⟨PQ,d4⟩:=je (DG w (iO key D s));have f8:=jz d4;rw[<- d4];obtain⟨w1,a9⟩:=je (w.alloc (.cells (arr 16 (c8 key)).toArray 41));obtain⟨gk,e3⟩:=je w.heap.size;have d0:Hid (Bw w w1):=jz (by rw[a9];exact aV _ _);have f2:Hid (AB w1 gk 41 16 (c8 key)):=jz (by rw[a9,e3];exact Blk.new _ _ _);have p6:prog.arrayLen 100=8:=by kernel_rfl
 have HZ:Hid ((prog.info? 100).map (·.size)=some (arr 8 (c8 (jE s))).toArray.size/\z8x8.size=(arr 8 (c8 (jE s))).toArray.size):=jz ⟨by rw[js,aA];kernel_rfl,by rw[show(arr 8 (c8 (jE s))).toArray.size=8 by simp[arr]];rfl⟩;have a4:Hid ((arr 8 (c8 (jE s))).toArray.all (·.oneCell')=true):=jz (aP (λ_=>rfl));obtain⟨K,hK⟩:=je ((arr 16 (c8 key)).toArray);obtain⟨M,hM⟩:=je ((arr 8 (c8 (jE s))).toArray);have HM:=jz hM;rw[<- hK] at a9 ⊢;rw[<- hM] at a3 HZ a4;clear hs hx hr d4 hK hM hE hL;go_enter func115,ntmps115
 go_upto_region 1 with fail
 rw[<- a9,<- e3];clear a9 e3;go_upto_region 5 with (first
  | (go_at_call 164;refine(a3 w1 d0).mono ?_;rintro e w2 ⟨rfl,d5⟩;have e5:=jz (aB d0 d5);have f3:=jz (f2.keep d5);clear d5)
  | (refine al 100 _ rfl rfl zT ?_)
  | (refine bQ 100 (.tmp 8) (.tmp 18) rfl rfl (by rfl) (by rfl) HZ.out.1 HZ.out.2 a4 ?_;intro w3 g2 d7 p9;have e6:=jz (aB e5 d7);have f4:=jz (f3.keep d7)))
 have q3:(0:Int)<=E:=by omega
 have q4:(E:Int)<=L:=by omega
 have q5:E<=L:=n6.1;have q6:E<=cap:=by omega
 have q7:(L:Int)<=cap:=by omega
 have q8:(E:Int)<=cap:=by omega
 have r0:¬L=E:=by omega
 -- region 5
 refine kZ (n:=13) (λW=>Bw w3 W) ((ji _ _).drew) (h:=λhH=>?_);refine qM 0 (.slice (some ⟨b,off,none⟩) L cap) ?_;refine qM 1 (.int .i64 E) ?_;refine qM 2 (.int .i64 E) ?_;refine qM 4 (.slice (some ⟨b,off,none⟩) L cap) ?_;refine qM 5 (.int .i64 E) ?_;refine qM 6 (.slice (some ⟨b,off,none⟩) L cap) ?_;refine qM 8 (.slice (some ⟨b,off,none⟩) L cap) ?_;refine qT 3 (.slice (some ⟨b,off,none⟩) E E) ?_;refine qT 11 (.slice (some ⟨b,off,none⟩) E E) ?_;refine qT 7 (.int .i64 L) ?_;refine qT 9 (.int .i64 L) ?_;refine qT 10 (.slice (some ⟨b,off+E,none⟩) (L-E) (L-E)) ?_;refine qT 12 (.slice (some ⟨b,off+E,none⟩) (L-E) (L-E)) ?_;refine kE (h:=?_)
 -- end of region 5
 obtain⟨w4,b0⟩:=je w3.drew;have b2:Hid (Bw w w4):=jz (by rw[b0];exact aB e6 (ji _ _).drew);have d2:Hid (AB w4 w2.heap.size 100 8 (c8 (jE s))):=jz (by
  rw[b0]
  have h:Blk w3 w2.heap.size 100 M:=g2
  rw[HM.out] at h
  exact h)
 have f9:Hid (w4.rangeAt gk 0 (arr 16 (c8 key))):=jz (by rw[b0];exact f4.range);obtain⟨gn,k3⟩:=je w2.heap.size;rw[<- k3] at d2 ⊢;rw[<- b0];have f6:Hid ((prog.info? 41).map (·.size)=some (arr 16 (c8 key)).length):=jz (by rw[aA];kernel_rfl);have c2:=jz (zU key w4 k4 (hk.below b2));clear b0 hH g2 d7 p9 k3 e6 f4 e5 f3 d0 f2 a3 HZ a4 p6;have J:Hid ((n8 (mkE key)).length=16/\(n8 (mkM key)).length=32):=jz ⟨by rw[aJ];exact fO _ _,by rw[aJ];exact i8 key⟩;have a1:Hid ((prog.info? 41).map (·.size)=some (n8 (mkE key)).toArray.size/\z8x16.size=(n8 (mkE key)).toArray.size/\(n8 (mkE key)).toArray.all (·.oneCell')=true):=jz ⟨by rw[js,J.out.1];kernel_rfl,by rw[show(n8 (mkE key)).toArray.size=16 by rw[js];exact J.out.1];rfl,all_oneCell_toArray (bK _)⟩;have a2:Hid ((prog.info? 23).map (·.size)=some (n8 (mkM key)).toArray.size/\zC32.size=(n8 (mkM key)).toArray.size/\(n8 (mkM key)).toArray.all (·.oneCell')=true):=jz ⟨by rw[js,J.out.2];kernel_rfl,by rw[show(n8 (mkM key)).toArray.size=32 by rw[js];exact J.out.2];rfl,all_oneCell_toArray (bK _)⟩;obtain⟨cE,e0⟩:=je (n8 (mkE key));obtain⟨cM,e2⟩:=je (n8 (mkM key));have m4:=jz e0;have m5:=jz e2;rw[<- e0] at a1 J c2;rw[<- e2] at a2 J c2;clear e0 e2;go_upto_region 7 with (first
  | (refine ld 41 (.tmp 3) rfl rfl (by rfl) f9 underlying41 rfl f6 ?_)
  | (go_at_call 165;refine c2.mono ?_;rintro e w5 ⟨rfl,p7⟩;have c5:=jz p7)
  | (refine al 41 _ rfl rfl cK ?_)
  | (refine al 23 _ rfl rfl zS ?_)
  | (refine aN 41 (.tmp 13) (.tmp 39) rfl rfl (by rfl) (by rfl) ((Blk.new w5 41 z8x16).alloc _) a1.out.1 a1.out.2.1 a1.out.2.2 ?_;intro w6 g3 h7 k6 q0;have h0:Blk w6 (w5.heap.size+1) 23 zC32:=(k6 _ (by omega)).trans (Blk.newAt _ _ _ _ (by simp)))
  | (show wpList _ _ _ [_] _ _;refine R2 ?_))
 unfold Stp;refine aN 23 (.tmp 14) (.tmp 40) rfl rfl (by rfl) (by rfl) h0 a2.out.1 a2.out.2.1 a2.out.2.2 ?_;intro O g8 h9 k7 q1;have c6:Blk O w5.heap.size 41 cE.toArray:=(k7 _ (by omega)).trans g3;have c9:Bw w5 O:=(((ji _ w5).alloc (ja _) _).alloc (by simp) _).trans (h7.trans (h9.mono (by omega)));obtain⟨a5,Z⟩:=je w5.heap.size;have f1:Hid (Blk O a5 41 cE.toArray):=jz (by rw[Z];exact c6);have f7:Hid (Blk O (a5+1) 23 cM.toArray):=jz (by rw[Z];exact g8);have V:Hid (Bw w4 O):=jz (aB c5 c9);rw[<- Z];clear c6 c9 g3 h7 k6 q0 h0 g8 h9 k7 q1 a1 a2 c2 f6 f9 Z c5;have b9:Hid (∀ W,Bw O W->∀ j u,(n8 s)[j]? = some u->W.cell? ⟨b,off+j,none⟩=some u):=jz (λW hW j u R=>j9 hW (j9 V (j9 b2 (n4 j u R))));have f5:Hid (TabK O):=jz ((hk.below b2).below V);clear hk;go_wp2_with fail
 obtain⟨U,b1⟩:=je ((O.alloc (.cells #[.int .u8 (D:Nat)] 5)).alloc (.cells #[.slice (some ⟨O.heap.size,0,none⟩) 1 1,.slice (some ⟨b,off,none⟩) E E] 60));have a7:(dA s).length=E:=by unfold dA;rw[jv,<- a0.out];omega
 have c3:(kH s).length=L-E:=by unfold kH;rw[List.length_drop,<- a0.out];omega
 have I:Bw O U:=by rw[b1];exact aB (aV _ _) (aV _ _)
 have h3:Sn U 1 (.slice (some ⟨O.heap.size,0,none⟩) 1 1) 1 (n8 [D]):=by
  have h:=(Sn.new O #[.int .u8 (D:Nat)] 5 1 1 rfl).alloc (.cells #[.slice (some ⟨O.heap.size,0,none⟩) 1 1,.slice (some ⟨b,off,none⟩) E E] 60);rw[<- b1] at h;exact h
 have h4:Sn U 1 (.slice (some ⟨b,off,none⟩) E E) (dA s).length (n8 (dA s)):=by
  rw[a7];refine⟨_,E,rfl,ja _,by rw[aJ,a7,Nat.mul_one],λ_=>⟨b,off,rfl,λj u R=>b9.out U I j u ?_⟩⟩;unfold dA n8 at R;rw[List.map_take,List.getElem?_take] at R;split at R
  ·exact R
  ·cases R
 have h5:Sn U 1 (.slice (some ⟨b,off+E,none⟩) (L-E) (L-E)) (kH s).length (n8 (kH s)):=by
  rw[c3];refine⟨_,L-E,rfl,ja _,by rw[aJ,c3,Nat.mul_one],λ_=>⟨b,off+E,rfl,λj u R=>?_⟩⟩;have h:=b9.out U I (E+j) u (by
   unfold kH n8 at R
   rw[List.map_drop,List.getElem?_drop,<- a0.out,<- m8.out] at R
   exact R)
  rw[<- Nat.add_assoc] at h;exact h
 have hP:PN U (.slice (some ⟨O.heap.size+1,0,none⟩) 2 2) [(.slice (some ⟨O.heap.size,0,none⟩) 1 1,[D]),(.slice (some ⟨b,off,none⟩) E E,dA s)]:=by
  refine qJ _ 2 rfl ?_ (λp hp=>?_) (λp hp=>?_)
  ·have h:=(Blk.newAt (O.alloc (.cells #[.int .u8 (D:Nat)] 5)) 60 #[.slice (some ⟨O.heap.size,0,none⟩) 1 1,.slice (some ⟨b,off,none⟩) E E] (O.heap.size+1) (by simp)).range;rw[<- b1] at h;exact h
  ·simp only[jl,j8,or_false] at hp;rcases hp with rfl|rfl
   ·exact h3
   ·exact h4
  ·simp only[jl,j8,or_false] at hp;rcases hp with rfl|rfl
   ·intro x hx;rw[List.mem_singleton.1 hx];exact hu
   ·exact λx hx=>c4 x (j7 hx)
 have e4:(mkM key).length=32:=i8 key;have h2:Sn U 1 (.slice (some ⟨a5+1,0,none⟩) 32 32) (mkM key).length (n8 (mkM key)):=by
  rw[e4];refine⟨_,32,rfl,ja _,by rw[aJ,e4],λ_=>⟨a5+1,0,rfl,?_⟩⟩;have h:=(f7.keep I).range;rw[jt,m5.out] at h;exact h
 have d1:=jz (aB b2 (aB V I));have b7:=jz (KA _ _ _ (mkM key) (kH s) _ U h2 (λx hx=>by unfold mkM at hx;exact gV _ x (j7 hx)) (by omega) hP (by simp) (by
  show([D]++(dA s++[])).length<=_
  rw[jj,jj,a7]
  show 1+(E+0)<=_
  omega) (f5.below I) h5 (λx hx=>c4 x (List.mem_of_mem_drop hx)) (by omega) (by omega))
 have f0:Hid (decide (kH s=(d6 (mkM key) (bJ [(Value.slice (some ⟨O.heap.size,0,none⟩) 1 1,[D]),(.slice (some ⟨b,off,none⟩) E E,dA s)])).take (kH s).length)=decide (kH s=(d6 (mkM key) (D :: dA s)).take 16)):=jz (by
  have e1:bJ [(Value.slice (some ⟨O.heap.size,0,none⟩) 1 1,[D]),(.slice (some ⟨b,off,none⟩) E E,dA s)]=D :: dA s:=by
   show [D]++(dA s++[])=_
   rw[List.append_nil];rfl
  rw[e1,c3,show L-E=16 from by omega])
 rw[f0.out] at b7;have m6:Hid (AB U a5 41 16 (c8 (nth (mkE key)))):=jz (by
  have h:=f1.keep I
  have k5:(mkE key).length=16:=fO _ _
  rw[m4.out,zG k5] at h
  exact h)
 have n2:Hid (AB U gn 100 8 (c8 (jE s))):=jz ((d2.keep V).keep I);have g0:Hid (∀ W,Bw U W->∀ j u,(n8 s)[j]? = some u->W.cell? ⟨b,off+j,none⟩=some u):=jz (λW hW j u R=>b9.out W (aB I hW) j u R);have m9:=jz a7;rw[<- b1];clear b1 a7 c3 I h3 h4 h5 h2 hP e4 f0 f5 b9 f7 f1 V d2 J;have HO:Hid (iO key D s=if kH s=(d6 (mkM key) (D :: dA s)).take 16 then some (arr (s.length-24) (d8 (nth (mkE key)) (nth s) (nth ((dA s).drop 8)) (s.length-24))) else none):=jz (by unfold iO;rw[jQ (by rw[<- a0.out];omega)]);obtain⟨ok,a8⟩:=je (decide (kH s=(d6 (mkM key) (D :: dA s)).take 16));rw[<- a8] at b7;refine b7.mono ?_;rintro e w9 ⟨rfl,k0⟩;have e7:=jz k0;clear k0 b7;cases ok with
 | false=>
  rw[jQ (of_decide_eq_false a8.symm)] at HO;clear a8;go_wp2_with fail
  first|go_ret2|skip
  rw[f8.out,HO.out];exact⟨aB d1 e7,rfl⟩
 | true=>
  rw[jP (of_decide_eq_true a8.symm)] at HO;clear a8;have r1:(8:Int)<=E:=by omega
  have r2:8<=E:=by omega
  obtain⟨bs,a6⟩:=je ((dA s).drop 8);have b3:Hid (bs.length=E-8):=jz (by rw[a6,List.length_drop,m9.out]);have m3:Hid (aQ (nth bs)):=jz (dI (λx hx=>by rw[a6] at hx;exact c4 x (j7 (List.mem_of_mem_drop hx))));obtain⟨X,hX⟩:=je ((if E=8 then some (⟨b,off,none⟩:Addr) else some ⟨b,off+8,none⟩));have g1:Hid (∀ W,Bw U W->Sn W 1 (.slice X (E-8) (E-8)) (E-8) (n8 bs)):=jz (λW hW=>by
   refine⟨_,E-8,rfl,ja _,by rw[aJ,b3.out,Nat.mul_one],λhp=>⟨b,off+8,by rw[hX,jQ (by omega)],λj u R=>?_⟩⟩
   have h:=g0.out W hW (8+j) u (by
    rw[a6] at R
    unfold dA n8 at R
    rw[List.map_drop,List.getElem?_drop,List.map_take,List.getElem?_take] at R
    split at R
    ·exact R
    ·cases R)
   rw[<- Nat.add_assoc] at h
   exact h)
  have e8:=jz (fun(W:Wd) (hW:Bw U W)=>KF (nth (mkE key)) (jE s) bs X (E-8) W (dI (by unfold mkE;exact uK _ _)) (by unfold jE;split;exact dI c4;exact λ_=>Nat.zero_lt_succ _) m3 (by rw[b3.out];exact g1 W hW) (by rw[b3.out];omega));rw[b3.out] at e8;rw[<- a6] at HO;have n3:Hid (jE s=nth s):=jz (by unfold jE;rw[jP (by rw[<- a0.out];exact hl)]);have n1:Hid (s.length-24=E-8):=jz (by rw[<- a0.out];omega);clear a6 g0 g1;go_upto_region 9 with fail
  refine kZ (n:=9) (λW=>Bw U W) (aB e7 (ji _ _).drew) (h:=λhH=>?_);refine qL 0 (cs:=arr 16 (c8 (nth (mkE key)))) (λW hW=>(m6.keep hW).range) (aA _ _) ?_;refine qL 1 (cs:=arr 8 (c8 (jE s))) (λW hW=>(n2.keep hW).range) (aA _ _) ?_;refine qM 2 (.slice (some ⟨b,off,none⟩) E E) ?_;refine qM 3 (.int .i64 E) ?_;refine qM 4 (.int .i64 E) ?_;refine kT 5 (some 54) (.slice X (E-8) (E-8)) (hy:=λW hW=>by
   rw[hX]
   by_cases h8:E=8
   ·subst h8
    unfold execOp
    go_simp
   ·rw[jQ h8]
    unfold execOp
    go_simp) (h:=?_)
  simp only[jq];refine kF 6 (some 55) ((e8 _ hH).mono ?_);rintro e r4 ⟨gb,rfl,h6,k2,c7⟩;have d3:=aB hH c7;refine⟨_,rfl,d3,λn7=>?_⟩;simp only[jq];refine qT 7 (.slice (some ⟨gb,0,none⟩) (E-8) (E-8)) ?_;refine qT 8 (.bool true) ?_;refine kE (h:=?_);have m1:=jz h6;have n0:Hid (w.heap.size<=gb):=jz (jm (jm d1.size hH.size) k2);have m2:=jz (aB d1 d3);clear h6 k2 c7 hH d3 n7;go_wp2_with fail
  first|go_ret2|skip
  rw[f8.out,HO.out,n1.out];refine⟨m2,gb,?_,n0,?_⟩
  ·rw[aA];rfl
  ·have h:=m1.out;rw[n3.out] at h;rw[II];exact h
theorem pN{key:Nat->Nat}{D:Nat}{s:List Nat}{b:List Nat}(hs:Byn s)(h:iO key D s=some b):Byn b/\b.length<=s.length:=by
 unfold iO at h;split at h
 ·cases h
 split at h
 ·injection h with h
  subst h;rw[aA];refine⟨eH (λk=>?_),Nat.sub_le _ _⟩;have I:aQ (nth ((dA s).drop 8)):=dI (λx J=>hs x (j7 (List.mem_of_mem_drop J)));unfold d8;split
  ·exact Nat.xor_lt_two_pow (n:=8) (I k) (pG (dI (uK _ _)) (lU (dI hs) _ 8) _)
  ·exact I k
 ·cases h
theorem DH(key:Nat->Nat)(D:Nat)(s:List Nat)(v:Value)(w:Wd)(I:aQ key)(R:D<256)(O:TabK w)(K:Byn s)(hs:Sn w 1 v s.length (n8 s))(J:s.length<=1000000):
  Wc 115 #[.agg (arr 16 (c8 key)).toArray,.int .u8 (D:Nat),v] w (DG w (iO key D s)):=by
 obtain⟨A,cap,rfl,_⟩:=id hs;rcases jo s.length 24 with h|h
 ·exact FN key D s _ w hs h
 ·exact KT key D s A cap w I R O K hs h J
end
end Go.Proofs.YtjjlaipkkdncfaaGreatDoor
