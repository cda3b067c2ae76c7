import Derived.Test.YtiaigidbcljblaaGreatDoorMS22
import Derived.Test.YtiaigidbcljblaaGreatDoorMS21
import Derived.WalkSmall
set_option linter.unusedVariables false
set_option linter.unusedSimpArgs false
set_option maxRecDepth 100000
set_option maxHeartbeats 40000000
namespace Go.Proofs.YtiaigidbcljblaaGreatDoor
open Go.Proofs.Tryz
section
open Go.RowKit
attribute [local irreducible] wpQuiet wpAnyH
@[irreducible] def Stp (p:Prop):Prop:=p
theorem Z1{p:Prop}(h:Stp p):p:=by unfold Stp at h;exact h
def d3(s:List Nat):List Nat:=s.take (s.length-16)
def nF(s:List Nat):List Nat:=s.drop (s.length-16)
def mT(key:Nat->Nat)(usage:Nat)(s:List Nat):Option (List Nat):=
 if s.length<24 then none
 else if nF s=(jI (mkM key) (usage :: d3 s)).take 16 then some (arr (s.length-24) (iS (nth (mkE key)) (nth s) (nth ((d3 s).drop 8)) (s.length-24)))
 else none
def E3(w:Wd)(o:Option (List Nat))(e:Ending)(w':Wd):Prop:=Bw w w'/\match o with
 | none=>e = .returned (.tuple #[.slice none 0 0,.bool false])
 | some b=>∃ gb,e = .returned (.tuple #[.slice (some ⟨gb,0,none⟩) b.length b.length,.bool true])/\w.heap.size<=gb/\Blk w' gb 5 (n8 b).toArray
theorem IQ(key:Nat->Nat)(j:Nat)(s:List Nat)(v:Value)(w:Wd)(hs:Sn w 1 v s.length (n8 s))(hl:s.length<24):
  Wc 162 #[.agg (arr 16 (c8 key)).toArray,.int .u8 (j:Nat),v] w (E3 w (mT key j s)):=by
 have HO:Hid (mT key j s=none):=jz (by unfold mT;rw[jP hl]);have I:=jz (fun(W:Wd) (hb:Bw w W)=>AF v s W (hs.below hb));rw[decide_eq_false (by omega)] at I;obtain⟨PQ,J⟩:=je (E3 w (mT key j s));have a0:=jz J;rw[<- J];obtain⟨w1,x⟩:=je (w.alloc (.cells (arr 16 (c8 key)).toArray 35));have O:Hid (Bw w w1):=jz (by rw[x];exact aH _ _);have a3:prog.arrayLen 308=8:=by kernel_rfl
 have HZ:Hid ((prog.info? 308).map (·.size)=some (arr 8 (c8 (lD s))).toArray.size/\z8x8.size=(arr 8 (c8 (lD s))).toArray.size):=jz ⟨by rw[js,aB];kernel_rfl,by rw[show(arr 8 (c8 (lD s))).toArray.size=8 by simp[arr]];rfl⟩;have D:Hid ((arr 8 (c8 (lD s))).toArray.all (·.oneCell')=true):=jz (bY (λ_=>rfl));obtain⟨K,hK⟩:=je ((arr 16 (c8 key)).toArray);obtain⟨M,hM⟩:=je ((arr 8 (c8 (lD s))).toArray);rw[<- hK] at x ⊢;rw[<- hM] at I HZ D;clear hs hl J hK hM;go_enter func162,ntmps162
 go_upto_region 1 with fail
 rw[<- x];clear x;go_wp2_with (first
  | (go_at_call 218;refine(I w1 O).mono ?_;rintro e w2 ⟨rfl,R⟩;have V:=jz (aA O R);clear R)
  | (refine al 308 _ rfl rfl CC ?_)
  | (refine bZ 308 (.tmp 8) (.tmp 18) rfl rfl (by rfl) (by rfl) HZ.out.1 HZ.out.2 D ?_;intro w3 a1 U a2;have Z:=jz (aA V U);clear a1 U a2))
 first|go_ret2|skip
 rw[a0.out,HO.out];exact⟨Z,rfl⟩
end
section
open Go.RowKit
def mU(xs:Wl):List Nat:=xs.map Int.toNat
theorem dR(j:Wl):(mU j).length=j.length:=List.length_map _
theorem rB{j:Wl}(h:Bys j):u8s j=n8 (mU j):=by
 unfold u8s n8 mU;rw[List.map_map];refine List.map_congr_left (λx D=>?_);have h1:=h x D;show Value.int .u8 x=Value.int .u8 ((x.toNat:Nat):Int);rw[Int.toNat_of_nonneg h1.1]
theorem mB{j:Wl}(h:Bys j):Byn (mU j):=λx D=>by
 obtain⟨y,hy,rfl⟩:=List.mem_map.1 D;have:=h y hy;omega
structure TkD where
 client:Nm
 start:Nat
 fin:Nat
 key:Nat->Nat
structure AuD where
 client:Nm
 time:Nat
 micro:Nat
 seq:Nat
def tk0:TkD:=⟨nm0,0,0,λ_=>0⟩
def au0:AuD:=⟨nm0,0,0,0⟩
structure TkOk(t:TkD):Prop where
 nm:NmOk t.client
 se:t.start<=t.fin
 mx:t.fin<=1099511627776
 key:bG t.key
structure AuOk(a:AuD):Prop where
 nm:NmOk a.client
 time:a.time<=1099511627776
 micro:a.micro<=999999
 seq:a.seq<4294967296
def tkR(b:Wl):TkD×Bool:=
 if (aI 1 (b,false)).1≠1 then (tk0,false)
 else if (eE (aI 1 (b,false)).2).1.2=false then (tk0,false)
 else
  let s:=(eE (aI 1 (b,false)).2).2
  let x:=aI 8 s
  let y:=aI 8 x.2
  let z:=dM 16 y.2
  if iA z.2=false\/y.1<x.1\/1099511627776<y.1 then (tk0,false)
  else (⟨(eE (aI 1 (b,false)).2).1.1,x.1,y.1,nth (mU z.1)⟩,true)
def auR(b:Wl):AuD×Bool:=
 if (aI 1 (b,false)).1≠2 then (au0,false)
 else if (eE (aI 1 (b,false)).2).1.2=false then (au0,false)
 else
  let s:=(eE (aI 1 (b,false)).2).2
  let x:=aI 8 s
  let y:=aI 4 x.2
  let z:=aI 4 y.2
  if iA z.2=false\/1099511627776<x.1\/999999<y.1 then (au0,false)
  else (⟨(eE (aI 1 (b,false)).2).1.1,x.1,y.1,z.1⟩,true)
theorem IR{s:RdS}(h:iA s=true):s.2=false:=by
 unfold iA at h;simp only[Bool.and_eq_true,Bool.not_eq_true'] at h;exact h.1
theorem YI{b:Wl}(hb:Bys b)(I:b.length<=1000000)(h:(tkR b).2=true):TkOk (tkR b).1:=by
 have x:RdOk ((b,false):RdS):=⟨hb,I⟩;unfold tkR at h ⊢;split at h
 ·cases h
 rename_i h1;rw[jQ h1];split at h
 ·cases h
 rename_i j;rw[jQ j];simp only at h ⊢;split at h
 ·cases h
 rename_i D;rw[jQ D];have J:NmOk (eE (aI 1 (b,false)).2).1.1:=AE (by simpa using j);have K:=pY ((((uP (x.num 1))).num 8).num 8) 16;exact⟨J,by show(aI 8 _).1<=(aI 8 _).1;omega,by show(aI 8 _).1<=_;omega,lR (mB K.1)⟩
theorem YJ{b:Wl}(hb:Bys b)(I:b.length<=1000000)(h:(auR b).2=true):AuOk (auR b).1:=by
 have x:RdOk ((b,false):RdS):=⟨hb,I⟩;unfold auR at h ⊢;split at h
 ·cases h
 rename_i h1;rw[jQ h1];split at h
 ·cases h
 rename_i j;rw[jQ j];simp only at h ⊢;split at h
 ·cases h
 rename_i D;rw[jQ D];have J:NmOk (eE (aI 1 (b,false)).2).1.1:=AE (by simpa using j);have K:=EH ((((uP (x.num 1))).num 8).num 4) 4;exact⟨J,by show(aI 8 _).1<=_;omega,by show(aI 4 _).1<=_;omega,K⟩
def tkO(key:Nat->Nat)(s:Wl):TkD×Int:=match mT key 2 (mU s) with
 | none=>(tk0,2)
 | some b=>if (tkR (cY b)).2 then ((tkR (cY b)).1,0) else (tk0,1)
def auO(key:Nat->Nat)(s:Wl):AuD×Int:=match mT key 11 (mU s) with
 | none=>(au0,2)
 | some b=>if (auR (cY b)).2 then ((auR (cY b)).1,0) else (au0,1)
def rqO(key:Nat->Nat)(b:Wl):(TkD×AuD)×Int:=
 if (dD b).2.2=false then ((tk0,au0),1)
 else if (tkO key (dD b).1).2≠0 then ((tk0,au0),(tkO key (dD b).1).2)
 else if (auO (tkO key (dD b).1).1.key (dD b).2.1).2≠0 then ((tk0,au0),(auO (tkO key (dD b).1).1.key (dD b).2.1).2)
 else (((tkO key (dD b).1).1,(auO (tkO key (dD b).1).1.key (dD b).2.1).1),0)
def CF(k x:Nat):List Nat:=(beB k x).map Int.toNat
theorem oC(k x:Nat):(CF k x).length=k:=by unfold CF;rw[List.length_map,bR]
def auN(a:AuD):List Nat:=2 :: nmN a.client++CF 8 a.time++CF 4 a.micro++CF 4 a.seq
theorem VW{a:AuD}(h:AuOk a):(auN a).length<=2000:=by
 have:=CB h.nm;unfold auN;simp only[jj,List.length_cons,oC];omega
theorem VX{a:AuD}(h:AuOk a):Byn (auN a):=λx D=>by
 have j:∀ k y,Byn (CF k y):=λk y=>mB (jD k y)
 unfold auN at D;simp only[ju,jl] at D;rcases D with (((h1|h1)|h1)|h1)|h1
 ·omega
 ·exact VO h.nm x h1
 ·exact j _ _ x h1
 ·exact j _ _ x h1
 ·exact j _ _ x h1
def auG(a:AuD):List Nat:=nG (auN a)
end
section
theorem iF(c x:UInt8)(s:Bs):split c (x :: s)=if x=c then [] :: split c s else (x :: (split c s).headD []) :: (split c s).tail:=rfl
theorem E4(c:UInt8)(s:Bs):split c s≠[]:=by
 cases s with
 | nil=>simp[split]
 | cons x s=>rw[iF];split <;> simp
theorem fT(c:UInt8)(s:Bs):∃ w j,split c s=w :: j:=List.exists_cons_of_ne_nil (E4 c s)
theorem mV(c:UInt8):∀ w:Bs,c ∉ w->split c w=[w]
 | [],_=>rfl
 | x :: w,h=>by
  have D:x≠c:=λe=>h (by rw[e];simp)
  have j:=mV c w (λe=>h (by simp[e]));rw[iF,jQ D,j];rfl
theorem mC(c:UInt8):∀(w s:Bs),c ∉ w->split c (w++c :: s)=w :: split c s
 | [],s,_=>by show split c (c :: s)=_;rw[iF,jP rfl]
 | x :: w,s,h=>by
  have D:x≠c:=λe=>h (by rw[e];simp)
  have j:=mC c w s (λe=>h (by simp[e]));rw[List.cons_append,iF,jQ D,j];rfl
def iZ(ws:List Bs):Bs:=ws.flatMap λw=>32 :: w
theorem rC:∀(w:Bs) (ws:List Bs),(∀ x∈w :: ws,(32:UInt8) ∉ x)->split 32 (w++iZ ws)=w :: ws
 | w,[],h=>by
  show split 32 (w++[])=_;rw[List.append_nil];exact mV 32 w (h w (by simp))
 | w,x :: ws,h=>by
  show split 32 (w++32 :: (x++iZ ws))=_;rw[mC 32 w _ (h w (by simp)),rC x ws (λy hy=>h y (by simp at hy ⊢;exact .inr hy))]
theorem k8{o:OpD}(h:aD o=true):o.kind=1\/o.kind=2\/o.kind=3\/o.kind=4\/o.kind=5\/o.kind=6:=by
 unfold aD at h;simp only[Bool.and_eq_true] at h;have h:=h.2.2
 repeat (split at h;· omega)
 cases h
theorem xK(k:Int):(32:UInt8) ∉ b8 k/\(10:UInt8) ∉ b8 k:=by
 unfold b8
 repeat (split;· decide)
 decide
theorem tB{k:Int}(h:k=1\/k=2\/k=3\/k=4\/k=5\/k=6):d6 (b8 k)=k:=by
 rcases h with rfl|rfl|rfl|rfl|rfl|rfl <;> decide
theorem E5{w:Bs}(h:d6 w≠0):b8 (d6 w)=w:=by
 unfold d6 at h ⊢
 repeat (split;· rename_i e;exact e.symm)
 simp_all
theorem CG(c:Wl):jA c=iZ (c.map Lib.itoa):=by simp[jA,iZ,List.flatMap_map]
theorem tC:∀ c:Wl,(∀ x∈c,0<=x/\x<=64)->fS (c.map Lib.itoa)=some c
 | [],_=>rfl
 | x :: c,h=>by
  have j:=h x (by simp);show(gJ (Lib.itoa x)).bind _=_;rw[zW x j.1 (by omega),Option.bind_some,tC c (λy hy=>h y (by simp[hy])),Option.map_some];rw[Int.toNat_of_nonneg j.1]
structure RightP(o:OpD):Prop where
 data:o.kind=3\/o.data=[]
 cuts:o.kind=6\/o.cuts=[]
 n:(0<=o.n/\o.n<=1099511627776)/\((o.kind=2\/o.kind=3\/o.kind=4)->o.n=0)
 cut:∀ x∈o.cuts,0<=x/\x<=64
theorem AN(c:Wl):iP c=true ↔ ∀ x∈c,0<=x/\x<=64:=by
 unfold iP;rw[List.all_eq_true];simp only[Bool.and_eq_true,decide_eq_true_eq]
theorem mW{o:OpD}(h:aD o=true):RightP o:=by
 have J:=k8 h;unfold aD at h;simp only[Bool.and_eq_true,Bool.or_eq_true,beq_iff_eq,List.isEmpty_iff] at h;obtain⟨h1,j,D⟩:=h;have I:o.kind≠6->∀ x∈o.cuts,0<=x/\x<=64:=λO x K=>by
  rcases j with j|j
  ·exact absurd j O
  ·rw[j] at K;cases K
 refine⟨h1,j,?_,?_⟩
 ·rcases J with e|e|e|e|e|e <;> (rw[e] at D ⊢;simp at D;omega)
 ·rcases J with e|e|e|e|e|e
  ·exact I (by omega)
  ·exact I (by omega)
  ·exact I (by omega)
  ·exact I (by omega)
  ·exact I (by omega)
  ·rw[e] at D;simp only[Int.reduceEq,if_true,if_false,Bool.and_eq_true] at D;exact(AN _).1 D.2.2.1
def f4(o:OpD):List Bs:=(if eD o.kind then [Lib.itoa o.n] else [])++o.cuts.map Lib.itoa++(if o.data.isEmpty then [] else [iB o.data])
theorem xL(x y:List Bs):iZ (x++y)=iZ x++iZ y:=by simp[iZ]
theorem oD(o:OpD):s9 o=b8 o.kind++iZ (f4 o):=by
 unfold s9 f4;rw[xL,xL,<- CG,List.append_assoc,List.append_assoc,List.append_assoc];congr 2
 ·split <;> simp[iZ]
 ·congr 1;split <;> simp[iZ]
theorem xM{o:OpD}(h:RightP o)(c:UInt8)(h1:dK c=false)(D:gC c=99):∀ x∈f4 o,c ∉ x:=by
 intro x j;unfold f4 at j;simp only[ju,List.mem_map] at j;rcases j with (j|⟨y,hy,rfl⟩)|j
 ·split at j
  ·obtain rfl:x=Lib.itoa o.n:=by simpa using j
   exact zX _ h.n.1.1 c h1
  ·cases j
 ·exact zX _ (h.cut y hy).1 c h1
 ·split at j
  ·cases j
  ·obtain rfl:x=iB o.data:=by simpa using j
   exact z8 _ c D
theorem IS{o:OpD}(h:RightP o):split 32 (s9 o)=b8 o.kind :: f4 o:=by
 rw[oD];refine rC _ _ λx j=>?_
 rw[jl] at j;rcases j with rfl|j
 ·exact(xK _).1
 ·exact xM h 32 (by decide) (by decide) x j
theorem mX{o:OpD}{k n:Int}{d:Bs}{c:Wl}(h1:o.kind=k)(j:o.n=n)(x:o.data=d)(D:o.cuts=c):o=⟨k,n,d,c⟩:=by
 cases o;simp_all
theorem RP{o:OpD}(h:aD o=true):opW o.kind (f4 o)=some o:=by
 have x:=mW h;have K:=x.n.1;have I:gJ (Lib.itoa o.n)=some o.n.toNat:=zW _ K.1 (by omega);have J:((o.n.toNat:Nat):Int)=o.n:=Int.toNat_of_nonneg K.1;rcases k8 h with e|e|e|e|e|e
 ·have hd:=x.data.resolve_left (by omega);have j:=x.cuts.resolve_left (by omega);have D:f4 o=[Lib.itoa o.n]:=by unfold f4;rw[e,hd,j];rfl
  rw[D,e];show(gJ (Lib.itoa o.n)).map _=_;rw[I,Option.map_some,J,<- mX e rfl hd j]
 ·have hd:=x.data.resolve_left (by omega);have j:=x.cuts.resolve_left (by omega);have D:f4 o=[]:=by unfold f4;rw[e,hd,j];rfl
  rw[D,e];show some (OpD.mk 2 0 [] [])=_;rw[<- mX e (x.n.2 (by omega)) hd j]
 ·have j:=x.cuts.resolve_left (by omega);rw[e];by_cases hd:o.data=[]
  ·have D:f4 o=[]:=by unfold f4;rw[e,hd,j];rfl
   rw[D];show some (OpD.mk 3 0 [] [])=_;rw[<- mX e (x.n.2 (by omega)) hd j]
  ·have D:f4 o=[iB o.data]:=by
    unfold f4;rw[e,j];simp[eD,hd]
   rw[D];show(if iB o.data=[] then none else (iQ (iB o.data)).map λd=>OpD.mk 3 0 d [])=_;rw[jQ (VG _ hd),z6,Option.map_some,<- mX e (x.n.2 (by omega)) rfl j]
 ·have hd:=x.data.resolve_left (by omega);have j:=x.cuts.resolve_left (by omega);have D:f4 o=[]:=by unfold f4;rw[e,hd,j];rfl
  rw[D,e];show some (OpD.mk 4 0 [] [])=_;rw[<- mX e (x.n.2 (by omega)) hd j]
 ·have hd:=x.data.resolve_left (by omega);have j:=x.cuts.resolve_left (by omega);have D:f4 o=[Lib.itoa o.n]:=by unfold f4;rw[e,hd,j];rfl
  rw[D,e];show(gJ (Lib.itoa o.n)).map _=_;rw[I,Option.map_some,J,<- mX e rfl hd j]
 ·have hd:=x.data.resolve_left (by omega);have D:f4 o=Lib.itoa o.n :: o.cuts.map Lib.itoa:=by unfold f4;rw[e,hd];simp[eD]
  rw[D,e];show(gJ (Lib.itoa o.n)).bind (fun(n:Nat)=>(fS (o.cuts.map Lib.itoa)).map λcs=>OpD.mk 6 (n:Int) [] cs)=_;rw[I,Option.bind_some,tC _ x.cut,Option.map_some,J,<- mX e rfl hd rfl]
theorem IT{o:OpD}(h:aD o=true):cU (e9 o)=some o:=by
 unfold e9 cU;rw[jP h,IS (mW h),List.headD_cons,List.tail_cons,tB (k8 h),RP h,Option.bind_some,jP h]
def fG(w:Bs):Bool:=w.isEmpty || w.head? == some 35
def tZ:List Bs->Nat->List OpD->Nat×List OpD
 | [],_,acc=>(0,acc)
 | [w],n,acc=>if w.isEmpty then (0,acc) else (n+1,[])
 | w :: x :: ws,n,acc=>if fG w then tZ (x :: ws) (n+1) acc else match cU w with
  | none=>(n+1,[])
  | some o=>tZ (x :: ws) (n+1) (acc++[o])
def bH(s:Bs):Nat×List OpD:=tZ (split 10 s) 0 []
def dH(l:List OpD):Bs:=l.flatMap λo=>e9 o++[10]
theorem NI(w:Bs)(n:Nat)(j:List OpD):tZ [w] n j=if w.isEmpty then (0,j) else (n+1,[]):=rfl
theorem NJ{w:Bs}(I:List Bs)(n:Nat)(j:List OpD)(hs:fG w=true)(D:I≠[]):tZ (w :: I) n j=tZ I (n+1) j:=by
 obtain⟨x,J,rfl⟩:=List.exists_cons_of_ne_nil D;show(if fG w then _ else _)=_;rw[jP hs]
theorem NK{w:Bs}(I:List Bs)(n:Nat)(j:List OpD)(hs:fG w=false)(D:I≠[])(J:cU w=none):tZ (w :: I) n j=(n+1,[]):=by
 obtain⟨x,K,rfl⟩:=List.exists_cons_of_ne_nil D;show(if fG w then _ else match cU w with|none=>_|some o=>_)=_;rw[jQ (by rw[hs];exact Bool.false_ne_true),J]
theorem AO{w:Bs}{o:OpD}(I:List Bs)(n:Nat)(j:List OpD)(hs:fG w=false)(D:I≠[])(J:cU w=some o):tZ (w :: I) n j=tZ I (n+1) (j++[o]):=by
 obtain⟨x,K,rfl⟩:=List.exists_cons_of_ne_nil D;show(if fG w then _ else match cU w with|none=>_|some o=>_)=_;rw[jQ (by rw[hs];exact Bool.false_ne_true),J]
theorem K8{o:OpD}(h:aD o=true):∃ x t,e9 o=x :: t/\x≠35:=by
 unfold e9;rw[jP h,oD];rcases k8 h with e|e|e|e|e|e <;> (rw[e];exact⟨_,_,rfl,by decide⟩)
theorem NL{o:OpD}(h:aD o=true):(10:UInt8) ∉ e9 o:=by
 unfold e9;rw[jP h,oD,ju];rintro(j|j)
 ·exact(xK _).2 j
 ·unfold iZ at j;rw[List.mem_flatMap] at j;obtain⟨w,x,j⟩:=j;rw[jl] at j;rcases j with j|j
  ·cases j
  ·exact xM (mW h) 10 (by decide) (by decide) w x j
theorem IU(o:OpD):(e9 o).isEmpty = !aD o:=by
 rcases jb (aD o) with h|h
 ·obtain⟨x,t,e,_⟩:=K8 h;rw[e,h];rfl
 ·unfold e9;rw[h];rfl
theorem xN(o:OpD)(l:List OpD):dH (o :: l)=e9 o++10 :: dH l:=by simp[dH]
theorem xO:∀(l:List OpD),(∀ o∈l,aD o=true)->∀(n:Nat) (acc:List OpD),tZ (split 10 (dH l)) n acc=(0,acc++l)
 | [],_,n,acc=>by
  show tZ [[]] n acc=_;rw[List.append_nil];rfl
 | o :: l,h,n,acc=>by
  have j:=h o (by simp);obtain⟨x,t,e,I⟩:=K8 j;have hs:fG (e9 o)=false:=by
   rw[e];unfold fG;simp[I]
  rw[xN,mC 10 _ _ (NL j),AO _ _ _ hs (E4 _ _) (IT j),xO l (λp D=>h p (by simp[D])),List.append_assoc];rfl
theorem tD(l:List OpD)(h:∀ o∈l,aD o=true):bH (dH l)=(0,l):=by
 unfold bH;rw[xO l h,List.nil_append]
end
section
open Go.RowKit
def Tab (w : Wd) : Prop := Lib.TabIs prog w "internal/strconv.uint64pow10" .u64 Lib.pow10Tab
theorem YK : prog.globalNamed "internal/strconv.uint64pow10" = some 0 := by kernel_rfl
theorem Tab.below{w w':Wd}(h:Tab w)(hb:Bw w w'):Tab w':=by
 refine var?_below hb YK ?_ h;have j:=h;unfold Tab Lib.TabIs World.var? at j;simp only[YK,Option.bind_some] at j;rcases jo 0 w.heap.size with D|x
 ·exact D
 ·rw[Array.getElem?_eq_none x] at j;cases j
end
end Go.Proofs.YtiaigidbcljblaaGreatDoor
