import Derived.Test.YtiaigidbcljblaaGreatDoorMB22
import Derived.Test.YtiaigidbcljblaaGreatDoorMB21
import Derived.WalkSmall
set_option linter.unusedVariables false
set_option linter.unusedSimpArgs false
set_option maxRecDepth 100000
set_option maxHeartbeats 40000000
namespace Go.Proofs.YtiaigidbcljblaaGreatDoor
open Go.Proofs.Tryz
section
open Go.RowKit
attribute [local irreducible] wpQuiet wpAnyH
@[irreducible] def Stp (p:Prop):Prop:=p
theorem YU{p:Prop}(h:Stp p):p:=by unfold Stp at h;exact h
def dS(s:List Nat):List Nat:=s.take (s.length-16)
def mQ(s:List Nat):List Nat:=s.drop (s.length-16)
def mJ(key:Nat->Nat)(usage:Nat)(s:List Nat):Option (List Nat):=
 if s.length<24 then none
 else if mQ s=(jB (mkM key) (usage :: dS s)).take 16 then some (arr (s.length-24) (iN (nth (mkE key)) (nth s) (nth ((dS s).drop 8)) (s.length-24)))
 else none
def DW(w:Wd)(o:Option (List Nat))(e:Ending)(w':Wd):Prop:=Bw w w'/\match o with
 | none=>e = .returned (.tuple #[.slice none 0 0,.bool false])
 | some b=>∃ gb,e = .returned (.tuple #[.slice (some ⟨gb,0,none⟩) b.length b.length,.bool true])/\w.heap.size<=gb/\Blk w' gb 5 (n8 b).toArray
theorem GK(key:Nat->Nat)(j:Nat)(s:List Nat)(v:Value)(w:Wd)(hs:Sn w 1 v s.length (n8 s))(hl:s.length<24):
  Wc 162 #[.agg (arr 16 (c8 key)).toArray,.int .u8 (j:Nat),v] w (DW w (mJ key j s)):=by
 have HO:Hid (mJ key j s=none):=jz (by unfold mJ;rw[jP hl]);have I:=jz (fun(W:Wd) (hb:Bw w W)=>yZ v s W (hs.below hb));rw[decide_eq_false (by omega)] at I;obtain⟨PQ,J⟩:=je (DW w (mJ key j s));have a0:=jz J;rw[<- J];obtain⟨w1,x⟩:=je (w.alloc (.cells (arr 16 (c8 key)).toArray 35));have O:Hid (Bw w w1):=jz (by rw[x];exact aG _ _);have a3:prog.arrayLen 308=8:=by kernel_rfl
 have HZ:Hid ((prog.info? 308).map (·.size)=some (arr 8 (c8 (k6 s))).toArray.size/\z8x8.size=(arr 8 (c8 (k6 s))).toArray.size):=jz ⟨by rw[js,aB];kernel_rfl,by rw[show(arr 8 (c8 (k6 s))).toArray.size=8 by simp[arr]];rfl⟩;have D:Hid ((arr 8 (c8 (k6 s))).toArray.all (·.oneCell')=true):=jz (bW (λ_=>rfl));obtain⟨K,hK⟩:=je ((arr 16 (c8 key)).toArray);obtain⟨M,hM⟩:=je ((arr 8 (c8 (k6 s))).toArray);rw[<- hK] at x ⊢;rw[<- hM] at I HZ D;clear hs hl J hK hM;go_enter func162,ntmps162
 go_upto_region 1 with fail
 rw[<- x];clear x;go_wp2_with (first
  | (go_at_call 218;refine(I w1 O).mono ?_;rintro e w2 ⟨rfl,R⟩;have V:=jz (aA O R);clear R)
  | (refine al 308 _ rfl rfl AU ?_)
  | (refine bZ 308 (.tmp 8) (.tmp 18) rfl rfl (by rfl) (by rfl) HZ.out.1 HZ.out.2 D ?_;intro w3 a1 U a2;have Z:=jz (aA V U);clear a1 U a2))
 first|go_ret2|skip
 rw[a0.out,HO.out];exact⟨Z,rfl⟩
end
section
open Go.RowKit
def mK(xs:Wl):List Nat:=xs.map Int.toNat
theorem dM(j:Wl):(mK j).length=j.length:=List.length_map _
theorem qB{j:Wl}(h:Bys j):u8s j=n8 (mK j):=by
 unfold u8s n8 mK;rw[List.map_map];refine List.map_congr_left (λx D=>?_);have h1:=h x D;show Value.int .u8 x=Value.int .u8 ((x.toNat:Nat):Int);rw[Int.toNat_of_nonneg h1.1]
theorem lW{j:Wl}(h:Bys j):Byn (mK j):=λx D=>by
 obtain⟨y,hy,rfl⟩:=List.mem_map.1 D;have:=h y hy;omega
structure TkD where
 client:Nm
 start:Nat
 fin:Nat
 key:Nat->Nat
structure AuD where
 client:Nm
 time:Nat
 micro:Nat
 seq:Nat
def tk0:TkD:=⟨nm0,0,0,λ_=>0⟩
def au0:AuD:=⟨nm0,0,0,0⟩
structure TkOk(t:TkD):Prop where
 nm:NmOk t.client
 se:t.start<=t.fin
 mx:t.fin<=1099511627776
 key:bD t.key
structure AuOk(a:AuD):Prop where
 nm:NmOk a.client
 time:a.time<=1099511627776
 micro:a.micro<=999999
 seq:a.seq<4294967296
def tkR(b:Wl):TkD×Bool:=
 if (aH 1 (b,false)).1≠1 then (tk0,false)
 else if (eB (aH 1 (b,false)).2).1.2=false then (tk0,false)
 else
  let s:=(eB (aH 1 (b,false)).2).2
  let x:=aH 8 s
  let y:=aH 8 x.2
  let z:=dH 16 y.2
  if gX z.2=false\/y.1<x.1\/1099511627776<y.1 then (tk0,false)
  else (⟨(eB (aH 1 (b,false)).2).1.1,x.1,y.1,nth (mK z.1)⟩,true)
def auR(b:Wl):AuD×Bool:=
 if (aH 1 (b,false)).1≠2 then (au0,false)
 else if (eB (aH 1 (b,false)).2).1.2=false then (au0,false)
 else
  let s:=(eB (aH 1 (b,false)).2).2
  let x:=aH 8 s
  let y:=aH 4 x.2
  let z:=aH 4 y.2
  if gX z.2=false\/1099511627776<x.1\/999999<y.1 then (au0,false)
  else (⟨(eB (aH 1 (b,false)).2).1.1,x.1,y.1,z.1⟩,true)
theorem GL{s:RdS}(h:gX s=true):s.2=false:=by
 unfold gX at h;simp only[Bool.and_eq_true,Bool.not_eq_true'] at h;exact h.1
theorem WX{b:Wl}(hb:Bys b)(I:b.length<=1000000)(h:(tkR b).2=true):TkOk (tkR b).1:=by
 have x:RdOk ((b,false):RdS):=⟨hb,I⟩;unfold tkR at h ⊢;split at h
 ·cases h
 rename_i h1;rw[jQ h1];split at h
 ·cases h
 rename_i j;rw[jQ j];simp only at h ⊢;split at h
 ·cases h
 rename_i D;rw[jQ D];have J:NmOk (eB (aH 1 (b,false)).2).1.1:=yY (by simpa using j);have K:=pB ((((tO (x.num 1))).num 8).num 8) 16;exact⟨J,by show(aH 8 _).1<=(aH 8 _).1;omega,by show(aH 8 _).1<=_;omega,lK (lW K.1)⟩
theorem WY{b:Wl}(hb:Bys b)(I:b.length<=1000000)(h:(auR b).2=true):AuOk (auR b).1:=by
 have x:RdOk ((b,false):RdS):=⟨hb,I⟩;unfold auR at h ⊢;split at h
 ·cases h
 rename_i h1;rw[jQ h1];split at h
 ·cases h
 rename_i j;rw[jQ j];simp only at h ⊢;split at h
 ·cases h
 rename_i D;rw[jQ D];have J:NmOk (eB (aH 1 (b,false)).2).1.1:=yY (by simpa using j);have K:=DA ((((tO (x.num 1))).num 8).num 4) 4;exact⟨J,by show(aH 8 _).1<=_;omega,by show(aH 4 _).1<=_;omega,K⟩
def tkO(key:Nat->Nat)(s:Wl):TkD×Int:=match mJ key 2 (mK s) with
 | none=>(tk0,2)
 | some b=>if (tkR (cT b)).2 then ((tkR (cT b)).1,0) else (tk0,1)
def auO(key:Nat->Nat)(s:Wl):AuD×Int:=match mJ key 11 (mK s) with
 | none=>(au0,2)
 | some b=>if (auR (cT b)).2 then ((auR (cT b)).1,0) else (au0,1)
def rqO(key:Nat->Nat)(b:Wl):(TkD×AuD)×Int:=
 if (cW b).2.2=false then ((tk0,au0),1)
 else if (tkO key (cW b).1).2≠0 then ((tk0,au0),(tkO key (cW b).1).2)
 else if (auO (tkO key (cW b).1).1.key (cW b).2.1).2≠0 then ((tk0,au0),(auO (tkO key (cW b).1).1.key (cW b).2.1).2)
 else (((tkO key (cW b).1).1,(auO (tkO key (cW b).1).1.key (cW b).2.1).1),0)
def AX(k x:Nat):List Nat:=(beB k x).map Int.toNat
theorem nN(k x:Nat):(AX k x).length=k:=by unfold AX;rw[List.length_map,bQ]
def auN(a:AuD):List Nat:=2 :: nmN a.client++AX 8 a.time++AX 4 a.micro++AX 4 a.seq
theorem UC{a:AuD}(h:AuOk a):(auN a).length<=2000:=by
 have:=AT h.nm;unfold auN;simp only[jj,List.length_cons,nN];omega
theorem UD{a:AuD}(h:AuOk a):Byn (auN a):=λx D=>by
 have j:∀ k y,Byn (AX k y):=λk y=>lW (iZ k y)
 unfold auN at D;simp only[ju,jl] at D;rcases D with (((h1|h1)|h1)|h1)|h1
 ·omega
 ·exact T8 h.nm x h1
 ·exact j _ _ x h1
 ·exact j _ _ x h1
 ·exact j _ _ x h1
def auG(a:AuD):List Nat:=mR (auN a)
end
section
theorem iB(c x:UInt8)(s:Bs):split c (x :: s)=if x=c then [] :: split c s else (x :: (split c s).headD []) :: (split c s).tail:=rfl
theorem QB(c:UInt8)(s:Bs):split c s≠[]:=by
 cases s with
 | nil=>simp[split]
 | cons x s=>rw[iB];split <;> simp
theorem fP(c:UInt8)(s:Bs):∃ w j,split c s=w :: j:=List.exists_cons_of_ne_nil (QB c s)
theorem pE(c:UInt8):∀ w:Bs,c ∉ w->split c w=[w]
 | [],_=>rfl
 | x :: w,h=>by
  have D:x≠c:=λe=>h (by rw[e];simp)
  have j:=pE c w (λe=>h (by simp[e]));rw[iB,jQ D,j];rfl
theorem rR(c:UInt8):∀(w s:Bs),c ∉ w->split c (w++c :: s)=w :: split c s
 | [],s,_=>by show split c (c :: s)=_;rw[iB,jP rfl]
 | x :: w,s,h=>by
  have D:x≠c:=λe=>h (by rw[e];simp)
  have j:=rR c w s (λe=>h (by simp[e]));rw[List.cons_append,iB,jQ D,j];rfl
theorem GM{o:OpD}(h:aE o=true):o.kind=1\/o.kind=2\/o.kind=3\/o.kind=4\/o.kind=5\/o.kind=6:=by
 unfold aE at h;simp only[Bool.and_eq_true] at h;have h:=h.2.2
 repeat (split at h;· omega)
 cases h
theorem DX{k:Int}(h:k=1\/k=2\/k=3\/k=4\/k=5\/k=6):dX (eI k)=k:=by
 rcases h with rfl|rfl|rfl|rfl|rfl|rfl <;> decide
theorem DY{w:Bs}(h:dX w≠0):eI (dX w)=w:=by
 unfold dX at h ⊢
 repeat (split;· rename_i e;exact e.symm)
 simp_all
structure RightP(o:OpD):Prop where
 data:o.kind=3\/o.data=[]
 cuts:o.kind=6\/o.cuts=[]
 n:(0<=o.n/\o.n<=1099511627776)/\((o.kind=2\/o.kind=3\/o.kind=4)->o.n=0)
 cut:∀ x∈o.cuts,0<=x/\x<=64
theorem oH(c:Wl):fC c=true ↔ ∀ x∈c,0<=x/\x<=64:=by
 unfold fC;rw[List.all_eq_true];simp only[Bool.and_eq_true,decide_eq_true_eq]
theorem UE{o:OpD}(h:aE o=true):RightP o:=by
 have J:=GM h;unfold aE at h;simp only[Bool.and_eq_true,Bool.or_eq_true,beq_iff_eq,List.isEmpty_iff] at h;obtain⟨h1,j,D⟩:=h;have I:o.kind≠6->∀ x∈o.cuts,0<=x/\x<=64:=λO x K=>by
  rcases j with j|j
  ·exact absurd j O
  ·rw[j] at K;cases K
 refine⟨h1,j,?_,?_⟩
 ·rcases J with e|e|e|e|e|e <;> (rw[e] at D ⊢;simp at D;omega)
 ·rcases J with e|e|e|e|e|e
  ·exact I (by omega)
  ·exact I (by omega)
  ·exact I (by omega)
  ·exact I (by omega)
  ·exact I (by omega)
  ·rw[e] at D;simp only[Int.reduceEq,if_true,if_false,Bool.and_eq_true] at D;exact(oH _).1 D.2.2.1
def gH(w:Bs):Bool:=w.isEmpty || w.head? == some 35
def xT:List Bs->Nat->List OpD->Nat×List OpD
 | [],_,acc=>(0,acc)
 | [w],n,acc=>if w.isEmpty then (0,acc) else (n+1,[])
 | w :: x :: ws,n,acc=>if gH w then xT (x :: ws) (n+1) acc else match dD w with
  | none=>(n+1,[])
  | some o=>xT (x :: ws) (n+1) (acc++[o])
def bI(s:Bs):Nat×List OpD:=xT (split 10 s) 0 []
theorem LW(w:Bs)(n:Nat)(j:List OpD):xT [w] n j=if w.isEmpty then (0,j) else (n+1,[]):=rfl
theorem LX{w:Bs}(I:List Bs)(n:Nat)(j:List OpD)(hs:gH w=true)(D:I≠[]):xT (w :: I) n j=xT I (n+1) j:=by
 obtain⟨x,J,rfl⟩:=List.exists_cons_of_ne_nil D;show(if gH w then _ else _)=_;rw[jP hs]
theorem LY{w:Bs}(I:List Bs)(n:Nat)(j:List OpD)(hs:gH w=false)(D:I≠[])(J:dD w=none):xT (w :: I) n j=(n+1,[]):=by
 obtain⟨x,K,rfl⟩:=List.exists_cons_of_ne_nil D;show(if gH w then _ else match dD w with|none=>_|some o=>_)=_;rw[jQ (by rw[hs];exact Bool.false_ne_true),J]
theorem LZ{w:Bs}{o:OpD}(I:List Bs)(n:Nat)(j:List OpD)(hs:gH w=false)(D:I≠[])(J:dD w=some o):xT (w :: I) n j=xT I (n+1) (j++[o]):=by
 obtain⟨x,K,rfl⟩:=List.exists_cons_of_ne_nil D;show(if gH w then _ else match dD w with|none=>_|some o=>_)=_;rw[jQ (by rw[hs];exact Bool.false_ne_true),J]
end
section
open Go.RowKit
def Tab (w : Wd) : Prop := Lib.TabIs prog w "internal/strconv.uint64pow10" .u64 Lib.pow10Tab
theorem WZ : prog.globalNamed "internal/strconv.uint64pow10" = some 0 := by kernel_rfl
theorem Tab.below{w w':Wd}(h:Tab w)(hb:Bw w w'):Tab w':=by
 refine var?_below hb WZ ?_ h;have j:=h;unfold Tab Lib.TabIs World.var? at j;simp only[WZ,Option.bind_some] at j;rcases jo 0 w.heap.size with D|x
 ·exact D
 ·rw[Array.getElem?_eq_none x] at j;cases j
end
end Go.Proofs.YtiaigidbcljblaaGreatDoor
