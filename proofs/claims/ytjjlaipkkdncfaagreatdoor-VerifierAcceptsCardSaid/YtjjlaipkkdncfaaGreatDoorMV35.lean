import Derived.ChangeSlices
import Derived.Test.YtjjlaipkkdncfaaGreatDoorMV34
import Derived.Test.YtjjlaipkkdncfaaGreatDoorMV28
import Derived.Test.YtjjlaipkkdncfaaGreatDoorMV27
import Derived.Lib.LaidTab
set_option linter.unusedVariables false
set_option linter.unusedSimpArgs false
set_option maxRecDepth 100000
set_option maxHeartbeats 40000000
namespace Go.Proofs.YtjjlaipkkdncfaaGreatDoor
open Go.Proofs.Tryz
section
open Go.RowKit Go.ChangeShapes Go.WideShapes Go.Deep
structure KdD where
 cl:Int
 ot:Int
 st:Int
 fi:Int
 tm:Int
 sq:Int
 fo:Bool
 sp:Int
def kdC(k:KdD):Wv:=[.int .i64 k.cl,.int .i64 k.ot,.int .i64 k.st,.int .i64 k.fi,.int .i64 k.tm,.int .u32 k.sq,.bool k.fo,.int .u16 k.sp]
structure KdOk(k:KdD):Prop where
 cl:aI k.cl
 ot:aI k.ot
 st:aI k.st
 fi:aI k.fi
 tm:aI k.tm
 sq:0<=k.sq/\k.sq<4294967296
 sp:0<=k.sp/\k.sp<65536
theorem U4{n:Int}(h:(Lit.int .u32 n).wf=true):0<=n/\n<4294967296:=by
 simp[Lit.wf,IntKind.min,IntKind.max,IntKind.signed,IntKind.bits] at h;omega
theorem U5{n:Int}(h:(Lit.int .u16 n).wf=true):0<=n/\n<65536:=by
 simp[Lit.wf,IntKind.min,IntKind.max,IntKind.signed,IntKind.bits] at h;omega
section
variable {H : Type} {enc : TypeId × Value -> H} {w : Wd} {base : Nat} {held : Bool} {spare : Nat -> Bool}
theorem DS{v:Value}{r:Reach}{b0:Nat}{x:DataW H}{ps:List MemPlace}(hv:Value.okWide prog w r b0 37 v)(h:DataW.Trod enc prog w base spare held 37 v x ps):∃ k:KdD,KdOk k/\v = .agg (kdC k).toArray:=by
 simp only[Value.okWide,underlying37] at hv;obtain⟨cs0,rfl,_⟩:=hv;obtain⟨fuel,Z⟩:=h;have a0:DataW.trod enc prog w base spare held fuel 37 cs0.toList=some (x,ps):=Z;obtain⟨xs,n,_,_,hl,hx,D⟩:=DataW.trod_struct underlying37 a0;have hC:prog.cellsOf 37=8:=by kernel_rfl
 rw[hC] at hl;have a1:xs.length=8:=hx;have g:∀ i,i<8->xs[i]? = some (xs[i]?.getD (.nil,[])):=λi hi=>by simp[List.getElem?_eq_getElem (show i<xs.length by omega)]
 have f0:=(D 0 _ rfl).trans (g 0 (by omega));have f1:=(D 1 _ rfl).trans (g 1 (by omega));have f2:=(D 2 _ rfl).trans (g 2 (by omega));have f3:=(D 3 _ rfl).trans (g 3 (by omega));have f4:=(D 4 _ rfl).trans (g 4 (by omega));have f5:=(D 5 _ rfl).trans (g 5 (by omega));have f6:=(D 6 _ rfl).trans (g 6 (by omega));have f7:=(D 7 _ rfl).trans (g 7 (by omega));obtain⟨k0,I,_,w0⟩:=DataW.trod_int underlying3 f0;obtain⟨k1,h1,_,w1⟩:=DataW.trod_int underlying3 f1;obtain⟨k2,J,_,w2⟩:=DataW.trod_int underlying2 f2;obtain⟨k3,K,_,w3⟩:=DataW.trod_int underlying2 f3;obtain⟨k4,O,_,w4⟩:=DataW.trod_int underlying2 f4;obtain⟨k5,R,_,w5⟩:=DataW.trod_int underlying34 f5;obtain⟨k6,U,_⟩:=DataW.trod_bool underlying4 f6;obtain⟨k7,V,_,w7⟩:=DataW.trod_int underlying35 f7;have c0:prog.cellsOf 3=1:=by kernel_rfl
 have c1:prog.cellsOf 2=1:=by kernel_rfl
 have c2:prog.cellsOf 34=1:=by kernel_rfl
 have c3:prog.cellsOf 4=1:=by kernel_rfl
 have c4:prog.cellsOf 35=1:=by kernel_rfl
 replace I:(cs0.toList.drop 0).take (prog.cellsOf 3)=[.int .i64 k0]:=I;replace h1:(cs0.toList.drop 1).take (prog.cellsOf 3)=[.int .i64 k1]:=h1;replace J:(cs0.toList.drop 2).take (prog.cellsOf 2)=[.int .i64 k2]:=J;replace K:(cs0.toList.drop 3).take (prog.cellsOf 2)=[.int .i64 k3]:=K;replace O:(cs0.toList.drop 4).take (prog.cellsOf 2)=[.int .i64 k4]:=O;replace R:(cs0.toList.drop 5).take (prog.cellsOf 34)=[.int .u32 k5]:=R;replace U:(cs0.toList.drop 6).take (prog.cellsOf 4)=[.bool k6]:=U;replace V:(cs0.toList.drop 7).take (prog.cellsOf 35)=[.int .u16 k7]:=V;rw[c0] at I h1;rw[c1] at J K O;rw[c2] at R;rw[c3] at U;rw[c4] at V;refine⟨⟨k0,k1,k2,k3,k4,k5,k6,k7⟩,⟨kU w0,kU w1,kU w2,kU w3,kU w4,U4 w5,U5 w7⟩,?_⟩;have he:cs0.toList=kdC ⟨k0,k1,k2,k3,k4,k5,k6,k7⟩:=by
  generalize cs0.toList=cs at *
  clear f0 f1 f2 f3 f4 f5 f6 f7 D hx a1 g w0 w1 w2 w3 w4 w5 w7 c0 c1 c2 c3 c4 hC a0 Z
  match cs,hl with
  | [v0,v1,v2,v3,v4,v5,v6,v7],_=>
   simp at I h1 J K O R U V;subst I h1 J K O R U V;rfl
 rw[<- he]
end
end
section
open Go.RowKit
def iA(n:Nat):Nm:=⟨[82],[if n=0 then [97,108,105,99,101] else if n=1 then [98,111,98] else [99,97,114,111,108]]⟩
theorem DU(n:Nat):NmOk (iA n):=by
 refine⟨show eD [82]=true by decide,λp D=>?_,show 1<=1/\1<=8 from⟨ja _,by omega⟩⟩;unfold iA at D;rw[List.mem_singleton.1 D];split
 ·decide
 ·split <;> decide
end
section
open Go.RowKit
attribute [local irreducible] wpQuiet wpAnyH
def kdN(n:Int):Nat:=((n.tmod 3+3).tmod 3).toNat
theorem U6(n:Int):kdN n<3:=by
 unfold kdN;have:=Int.tmod_lt_of_pos (n.tmod 3+3) (show(0:Int)<3 by decide);omega
theorem r8(n:Int)(R:aI n)(w:Wd):Wc 33 #[.int .i64 n] w λe w'=>∃ A cap,e = .returned (.agg #[.string (bI [82]),.slice A 1 cap])/\w'.ownsRow w.heap.size 9 1 (.slice A 1 cap) 1 (((iA (kdN n)).parts.map bI).map Value.string)/\Bw w w':=by
 have J:wrap64 (n.tmod 3+3)=n.tmod 3+3:=by
  have h1:=Int.tmod_lt_of_pos n (show(0:Int)<3 by decide);have K:=Int.lt_tmod_of_pos n (show(0:Int)<3 by decide);unfold wrap64;omega
 obtain⟨q,U,D⟩:∃ q:Nat,(wrap64 (n.tmod 3+3)).tmod 3=(q:Int)/\kdN n=q:=by
  rw[J];unfold kdN;have K:=Int.lt_tmod_of_pos n (show(0:Int)<3 by decide);exact⟨_,(Int.toNat_of_nonneg (Int.tmod_nonneg 3 (by omega))).symm,rfl⟩
 have I:=U6 n;rw[D] at I ⊢;clear D J;have O:q=0\/q=1\/q=2:=by omega
 rcases O with rfl|rfl|rfl
 all_goals
  clear I;go_enter func33,ntmps33
  go_upto_region 1 with fail
  go_wp2_with fail
  refine bodyPost_ret (results_cell_row rfl _ _ w.heap.size 51 _ (0,0) _ rfl (((Blk.new w _ _).alloc _).alloc _) underlying51 rfl (by kernel_rfl)) rfl ⟨_,_,rfl,iP _ _ _ 1 1 _ _ (by simp;omega) rfl (by unfold maxLen;omega) (by simp),(by repeat (first|exact ji _ _|assumption|refine dG ?_ _|refine Below.setCell ?_ (by first|exact ja _|assumption|omega|(simp <;> omega)) _|refine Below.alloc ?_ (by first|exact ja _|assumption|omega|(simp <;> omega)) _))⟩
end
section
open Go.RowKit
def kyK:Nat->Nat:=nth [1,2,3]
theorem oQ:aQ kyK:=λk=>dI (l:=[1,2,3]) (λx D=>by simp at D;omega) k
def nnK(q:Nat):Nat->Nat:=nth [q % 256]
theorem O7(q:Nat):aQ (nnK q):=λk=>dI (l:=[q % 256]) (λx D=>by rw[List.mem_singleton.1 D];exact Nat.mod_lt _ (by omega)) k
def tkK(n c st fi:Nat):TkD:=⟨iA n,st,fi,nth [9,c % 256]⟩
def auK(n tm sq:Nat):AuD:=⟨iA n,tm,0,sq⟩
theorem z8{n c st fi:Nat}(h1:st<=fi)(I:fi<=1099511627776):TkOk (tkK n c st fi):=
 ⟨DU n,h1,I,λk=>dI (l:=[9,c % 256]) (λx D=>by
  rcases List.mem_cons.1 D with rfl|D
  ·decide
  ·rw[List.mem_singleton.1 D];exact Nat.mod_lt _ (by omega)) k⟩
theorem AC{n tm sq:Nat}(h1:tm<=1099511627776)(D:sq<4294967296):AuOk (auK n tm sq):=⟨DU n,h1,by show 0<=999999;omega,D⟩
end
section
open Go.RowKit
attribute [local irreducible] wpQuiet wpAnyH
theorem O8(n:Nat)(R:2<=n):∃ r',(3<=r'/\r'<=6)/\cO (gQ n)=(none,qD ((List.replicate n zsec).set 0 (rec 1 toll)) [] 3 r',some (⟨0,0,1,0,false⟩,[])):=by
 obtain⟨r',U,V,Z⟩:=TM (sec:=List.replicate n zsec) (st:=1) (r:=1) (a:=0) (by decide) (by simp;omega) (rec 1 toll);refine⟨r',⟨by omega,by omega⟩,?_⟩;have K:=KP n R;have O:(gQ n).sec.length=n:=List.length_replicate;unfold cO;rw[jQ (by omega),UI,RS,IE];show i6 (qD (List.replicate n zsec) [] 1 1)=_;have D:(qD (List.replicate n zsec) [] 1 1).sec.length=n:=List.length_replicate;have J:(pI (qD (List.replicate n zsec) [] 1 1)).1=none:=FI (λs hs=>by rw[D];exact K.scan s hs);have I:cN (qD (List.replicate n zsec) [] 1 1) (qD (List.replicate n zsec) [] 1 1).sec.length=0:=by
  have:=DE (d:=qD (List.replicate n zsec) [] 1 1) rfl rfl 0 K.tag _ (ja _);omega
 unfold i6;rw[J,I];simp only[show ¬((0:Nat)=4294967295) by omega,if_false,Nat.zero_add];rw[TL (by decide) (by simp;omega),Z];rfl
theorem WG{sec:List Wl}{st r h:Nat}{L:LogD}{q:b8}(hb:L.brk=false)(U:bG q=true)(hs:L.side<2)(hc:L.cnt+1<h)(hl:h+h<=sec.length):
  ∃ D r',r'<=max r (st+2)+1/\st+2<=r'/\D.length=sec.length/\sM (qD sec [] st r) h L q=none/\oL (qD sec [] st r) h L q=qD D [] (st+2) r'/\vH (qD sec [] st r) h L q={ L with cnt:=L.cnt+1 }:=by
 have V:=TN (h:=h) hs;have K:∀ {α:Type} (x y:α),(if L.brk=true then x else y)=y:=λx y=>by rw[hb];rfl
 rcases OM (qD sec [] st r) (bD h L.side) h ((L.cnt+1:Nat):Int) L.gen q (by omega) with ⟨h1,_⟩|⟨_,h1,_⟩|⟨_,_,J,O⟩
 ·rw[KO (by omega)] at h1;omega
 ·rw[U] at h1;cases h1
 ·obtain⟨p,R⟩:∃ p:Nat,(bD h L.side:Int)+((L.cnt+1:Nat):Int)=(p:Int):=⟨bD h L.side+(L.cnt+1),by omega⟩;have I:(p:Int)<sec.length:=by omega
  rw[R] at J O;obtain⟨r',h1,h2,Z⟩:=TM (sec:=sec) (st:=st) (r:=r) (a:=(p:Int)) (by omega) I (cG L.gen q);rw[TL (by omega) I] at J;rw[Z] at O;refine⟨sec.set (p:Int).toNat (cG L.gen q),r',h2,h1,?_,?_,?_,?_⟩
  ·exact List.length_set ..
  ·unfold sM;rw[K,J]
  ·unfold oL;rw[K,O]
  ·unfold vH;rw[K,J];rfl
theorem St.log{w0 w w':Wd}{m m':DiskM}{d d':DiskD}{gl:Nat}(h:St w0 w m d)(D:DK w' m' d')(ht:LT gl w m w' m')(hg:w0.heap.size<=gl):St w0 w' m' d':=
 ⟨D,ht.le h.ft h.bel.size,h.bel.trans (ht.below h.ft hg h.bel.size)⟩
end
section
open Go.RowKit
theorem rG(l:List Nat):i9 (aG l)=l:=by
 unfold i9 aG;rw[List.map_map]
 conv=>rhs;rw[<- List.map_id l]
 exact List.map_congr_left λx _=>rfl
theorem cP(a b:List Nat):aG (a++b)=aG a++aG b:=List.map_append ..
theorem gJ(a:Nat)(b:List Nat):aG (a :: b)=(a:Int) :: aG b:=rfl
theorem K0{l:Wl}(h:Bys l):aG (i9 l)=l:=by
 unfold aG i9;rw[List.map_map]
 conv=>rhs;rw[<- List.map_id l]
 refine List.map_congr_left λx D=>?_
 show((x.toNat:Nat):Int)=x;exact Int.toNat_of_nonneg (h x D).1
def kQ(key nn:Nat->Nat)(b:List Nat):List Nat:=arr 8 nn++arr b.length (d8 (nth (mkE key)) nn (nth b) b.length)
def iH(key:Nat->Nat)(usage:Nat)(nn:Nat->Nat)(b:List Nat):List Nat:=kQ key nn b++(d6 (mkM key) (usage :: kQ key nn b)).take 16
theorem l9(key nn:Nat->Nat)(b:List Nat):(kQ key nn b).length=8+b.length:=by unfold kQ;rw[jj,aA,aA]
theorem K1(k l:List Nat):((d6 k l).take 16).length=16:=by
 rw[jv,show(d6 k l).length=32 from bL _];rfl
theorem lG(key:Nat->Nat)(D:Nat)(nn:Nat->Nat)(b:List Nat):(iH key D nn b).length=b.length+24:=by
 unfold iH;rw[jj,l9,K1];omega
theorem FT{a b:Nat->Nat}(h:∀ k,k<8->a k=b k)(i:Nat):dQ a i=dQ b i:=by
 funext q
 unfold dQ uV;split
 ·rename_i D;exact h q D
 ·rfl
theorem SD(l:List Nat):arr l.length (nth l)=l:=by
 apply List.ext_getElem?;intro i;by_cases hi:i<l.length
 ·rw[dC _ hi,List.getElem?_eq_getElem hi];unfold nth;rw[jn,List.getElem?_eq_getElem hi];rfl
 ·rw[List.getElem?_eq_none (by rw[aA];omega),List.getElem?_eq_none (by omega)]
theorem DV(key:Nat->Nat)(D:Nat)(nn:Nat->Nat)(b:List Nat):iO key D (iH key D nn b)=some b:=by
 obtain⟨s,hs⟩:=je (iH key D nn b);have O:s.length=b.length+24:=by rw[hs];exact lG _ _ _ _
 have J:dA s=kQ key nn b:=by
  unfold dA;rw[O,hs];unfold iH;rw[List.take_left' (by rw[l9];omega)]
 have U:kH s=(d6 (mkM key) (D :: kQ key nn b)).take 16:=by
  unfold kH;rw[O,hs];unfold iH;rw[List.drop_left' (by rw[l9];omega)]
 have V:∀ k,k<8->nth s k=nn k:=λk K=>by
  rw[hs];unfold iH;rw[mP (by rw[l9];omega)];unfold kQ;rw[mP (by rw[aA];exact K),s7 _ K]
 have hd:(dA s).drop 8=arr b.length (d8 (nth (mkE key)) nn (nth b) b.length):=by
  rw[J];unfold kQ;rw[List.drop_left' (aA _ _)]
 rw[<- hs];unfold iO;rw[jQ (by omega),jP (by rw[U,J])];congr 1;have R:s.length-24=b.length:=by omega
 rw[R,hd]
 conv=>rhs;rw[<- SD b]
 apply iM;intro j I;unfold d8;rw[jP I,s7 _ I,jP I,FT V,Nat.xor_assoc,Nat.xor_self,Nat.xor_zero]
theorem SE{key nn f:Nat->Nat}{n:Nat}(I:aQ key)(J:aQ nn)(D:aQ f):aQ (d8 key nn f n):=λj=>by
 unfold d8;split
 ·exact Nat.xor_lt_two_pow (n:=8) (D j) (pG I (lU J _ _) _)
 ·exact D j
theorem FU{key nn:Nat->Nat}{b:List Nat}(D:aQ nn)(hb:Byn b):Byn (kQ key nn b):=λx I=>by
 unfold kQ at I;rcases List.mem_append.1 I with h|h
 ·exact eH D x h
 ·exact eH (SE (dI (uK _ _)) D (dI hb)) x h
theorem yP{key nn:Nat->Nat}{D:Nat}{b:List Nat}(J:aQ nn)(hb:Byn b):Byn (iH key D nn b):=λx I=>by
 unfold iH at I;rcases List.mem_append.1 I with h|h
 ·exact FU J hb x h
 ·exact CD _ _ x (j7 h)
theorem K3(k x:Nat):aG (dB k x)=beB k x:=by
 unfold dB;exact K0 (fR k x)
theorem pR(k x:Nat):Byn (dB k x):=jA (fR k x)
theorem lH(k x:Nat)(r:Wl)(D:x<256 ^ k):aF k (aG (dB k x)++r,false)=(x,(r,false)):=by
 unfold aF;rw[K3];simp only;rw[jP ⟨trivial,by rw[jj,bE];omega⟩,List.take_left' (bE k x),List.drop_left' (bE k x),G7,Nat.mod_eq_of_lt D]
theorem gK(x:Nat)(r:Wl):aF 1 ((x:Int) :: r,false)=(x,(r,false)):=by
 unfold aF;simp only;rw[jP ⟨trivial,by simp⟩];simp[beN]
theorem rH(l:List Nat)(r:Wl):cW l.length (aG l++r,false)=(aG l,(r,false)):=by
 unfold cW;simp only;rw[jP ⟨trivial,by rw[jj,aL];omega⟩,List.take_left' (aL l),List.drop_left' (aL l)]
theorem DW(k:Nat)(l:List Nat)(r:Wl)(D:l.length<256 ^ k):aX k (aG (dB k l.length)++(aG l++r),false)=(aG l,(r,false)):=by
 unfold aX;rw[lH k _ _ D];simp only[Bool.false_eq_true,if_false];exact rH l r
theorem K4(l:List Nat)(r:Wl):aX 1 ((l.length:Int) :: (aG l++r),false)=(aG l,(r,false)):=by
 unfold aX;rw[gK];simp only[Bool.false_eq_true,if_false];exact rH l r
theorem O9(p:Bs):bsI (aG (p.map (·.toNat)))=p:=by
 unfold bsI aG;rw[List.map_map,List.map_map]
 conv=>rhs;rw[<- List.map_id p]
 refine List.map_congr_left λx _=>?_
 show UInt8.ofNat ((x.toNat:Int)).toNat=x;simp
theorem K5(p:Bs)(r:Wl):aG (fF p)++r=((p.map (·.toNat)).length:Int) :: (aG (p.map (·.toNat))++r):=by
 unfold fF;rw[gJ,List.length_map];rfl
theorem PA(p:Bs)(r:Wl):aX 1 (aG (fF p)++r,false)=(aG (p.map (·.toNat)),(r,false)):=by
 rw[K5];exact K4 _ r
theorem vW:∀(ps acc:List Bs) (r:Wl),(∀ p∈ps,eD p=true)->eV ps.length (aG (ps.flatMap fF)++r,false) acc=(some (acc++ps),(r,false))
 | [],acc,r,_=>by simp[eV,aG]
 | p :: ps,acc,r,h=>by
  have e:aG ((p :: ps).flatMap fF)++r=aG (fF p)++(aG (ps.flatMap fF)++r):=by
   rw[List.flatMap_cons,cP,List.append_assoc]
  rw[e,List.length_cons];unfold eV;rw[PA];simp only;rw[O9,jP (h p (by simp)),vW ps _ r (λq D=>h q (by simp[D])),List.append_assoc];rfl
theorem IS{n:Nm}(h:NmOk n)(r:Wl):dW (aG (nmN n)++r,false)=((n,true),(r,false)):=by
 have e:aG (nmN n)++r=aG (fF n.realm)++((n.parts.length:Int) :: (aG (n.parts.flatMap fF)++r)):=by
  unfold nmN;rw[cP,gJ,List.append_assoc];rfl
 have D:=h.few;rw[e];unfold dW;rw[PA];simp only;rw[O9,jQ (by rw[h.realm];simp),gK];simp only;rw[jQ (by omega),vW _ _ _ h.parts];rfl
def tkN(t:TkD):List Nat:=1 :: nmN t.client++dB 8 t.start++dB 8 t.fin++arr 16 t.key
theorem PB(t:TkD):aG (tkN t)=(1:Int) :: (aG (nmN t.client)++(aG (dB 8 t.start)++(aG (dB 8 t.fin)++aG (arr 16 t.key)))):=by
 unfold tkN;rw[cP,cP,cP,gJ,List.append_assoc,List.append_assoc];rfl
theorem AD{t:TkD}(h:TkOk t):(tkN t).length<=2000:=by
 have:=tE h.nm;unfold tkN;simp only[jj,List.length_cons,gY,aA];omega
theorem IT{t:TkD}(h:TkOk t):Byn (tkN t):=λx D=>by
 unfold tkN at D;simp only[ju,jl] at D;rcases D with (((h1|h1)|h1)|h1)|h1
 ·omega
 ·exact IG h.nm x h1
 ·exact pR _ _ x h1
 ·exact pR _ _ x h1
 ·exact eH h.key x h1
theorem oR:fU (([]:Wl),false)=true:=rfl
theorem U7{t:TkD}(h:TkOk t):tkR (aG (tkN t))=({ t with key:=nth (arr 16 t.key) },true):=by
 have R:=h.mx;have hs:=h.se;have I:aF 1 (aG (tkN t),false)=(1,(aG (nmN t.client)++(aG (dB 8 t.start)++(aG (dB 8 t.fin)++aG (arr 16 t.key))),false)):=by
  rw[PB];exact gK 1 _
 have J:=IS h.nm (aG (dB 8 t.start)++(aG (dB 8 t.fin)++aG (arr 16 t.key)));have K:=lH 8 t.start (aG (dB 8 t.fin)++aG (arr 16 t.key)) (by omega);have O:=lH 8 t.fin (aG (arr 16 t.key)) (by omega);have D:=rH (arr 16 t.key) [];rw[List.append_nil,aA] at D;unfold tkR;rw[I];simp only;rw[jQ (by simp),J];simp only;rw[jQ (by simp),K];simp only;rw[O];simp only;rw[D,jQ (by rw[oR];simp only[Bool.true_eq_false,false_or];omega),rG]
theorem PD(a:AuD):aG (auN a)=(2:Int) :: (aG (nmN a.client)++(aG (dB 8 a.time)++(aG (dB 4 a.micro)++aG (dB 4 a.seq)))):=by
 unfold auN;rw[cP,cP,cP,gJ,List.append_assoc,List.append_assoc];rfl
theorem U8{a:AuD}(h:AuOk a):auR (aG (auN a))=(a,true):=by
 have R:=h.time;have hs:=h.micro;have U:=h.seq;have I:aF 1 (aG (auN a),false)=(2,(aG (nmN a.client)++(aG (dB 8 a.time)++(aG (dB 4 a.micro)++aG (dB 4 a.seq))),false)):=by
  rw[PD];exact gK 2 _
 have J:=IS h.nm (aG (dB 8 a.time)++(aG (dB 4 a.micro)++aG (dB 4 a.seq)));have K:=lH 8 a.time (aG (dB 4 a.micro)++aG (dB 4 a.seq)) (by omega);have O:=lH 4 a.micro (aG (dB 4 a.seq)) (by omega);have D:=lH 4 a.seq [] (by omega);rw[List.append_nil] at D;unfold auR;rw[I];simp only;rw[jQ (by simp),J];simp only;rw[jQ (by simp),K];simp only;rw[O];simp only;rw[D,jQ (by rw[oR];simp only[Bool.true_eq_false,false_or];omega)]
def rqN(x y:List Nat):List Nat:=65 :: 80 :: 1 :: (dB 2 x.length++x++(dB 2 y.length++y))
theorem IU(x y:List Nat):(rqN x y).length=7+x.length+y.length:=by
 unfold rqN;simp only[jj,List.length_cons,gY];omega
theorem SF{x y:List Nat}(I:Byn x)(hy:Byn y):Byn (rqN x y):=λz D=>by
 unfold rqN at D;simp only[ju,jl] at D;rcases D with h|h|h|(h|h)|h|h
 ·omega
 ·omega
 ·omega
 ·exact pR _ _ z h
 ·exact I z h
 ·exact pR _ _ z h
 ·exact hy z h
theorem SG(x y:List Nat)(h:x.length+y.length<=65529):dK (aG (rqN x y))=(aG x,aG y,true):=by
 have e:aG (rqN x y)=(65:Int) :: ((80:Int) :: ((1:Int) :: (aG (dB 2 x.length)++(aG x++(aG (dB 2 y.length)++(aG y++[])))))):=by
  unfold rqN;rw[gJ,gJ,gJ,cP,cP,cP,List.append_nil,List.append_assoc];rfl
 have R:(aG (rqN x y)).length<=65536:=by rw[aL,IU];omega
 have U:rdH (aG (rqN x y)) 0=(aG (rqN x y),false):=rfl;have D:aF 1 (rdH (aG (rqN x y)) 0)=(65,((80:Int) :: ((1:Int) :: (aG (dB 2 x.length)++(aG x++(aG (dB 2 y.length)++(aG y++[]))))),false)):=by
  rw[U,e];exact gK 65 _
 have I:aF 1 (rdH (aG (rqN x y)) 1)=(80,((1:Int) :: (aG (dB 2 x.length)++(aG x++(aG (dB 2 y.length)++(aG y++[])))),false)):=by
  show aF 1 (aF 1 (rdH (aG (rqN x y)) 0)).2=_;rw[D];exact gK 80 _
 have J:aF 1 (rdH (aG (rqN x y)) 2)=(1,(aG (dB 2 x.length)++(aG x++(aG (dB 2 y.length)++(aG y++[]))),false)):=by
  show aF 1 (aF 1 (rdH (aG (rqN x y)) 1)).2=_;rw[I];exact gK 1 _
 have K:aX 2 (rdH (aG (rqN x y)) 3)=(aG x,(aG (dB 2 y.length)++(aG y++[]),false)):=by
  show aX 2 (aF 1 (rdH (aG (rqN x y)) 2)).2=_;rw[J];exact DW 2 x _ (by omega)
 have s2:aX 2 (aX 2 (rdH (aG (rqN x y)) 3)).2=(aG y,([],false)):=by
  rw[K];exact DW 2 y _ (by omega)
 rw[ID R (λk V=>by
  have O:k=0\/k=1\/k=2:=by omega
  rcases O with rfl|rfl|rfl
  ·rw[D];rfl
  ·rw[I];rfl
  ·rw[J];rfl),s2,K,jP oR]
def pS(key nn:Nat->Nat)(t:TkD)(a:AuD):List Nat:=rqN (iH key 2 nn (tkN t)) (iH t.key 11 nn (auN a))
theorem K6{key nn:Nat->Nat}{t:TkD}{a:AuD}(ht:TkOk t)(ha:AuOk a):(pS key nn t a).length<=5000:=by
 have h1:=AD ht;have D:=tG ha;unfold pS;rw[IU,lG,lG];omega
theorem K7{key nn:Nat->Nat}{t:TkD}{a:AuD}(D:aQ nn)(ht:TkOk t)(ha:AuOk a):Byn (pS key nn t a):=
 SF (yP D (IT ht)) (yP D (z2 ha))
theorem SH(n:Nat)(f:Nat->Nat):arr n (nth (arr n f))=arr n f:=iM λk D=>s7 f D
theorem PE{f g:Nat->Nat}(h:arr 16 f=arr 16 g):mkE f=mkE g/\mkM f=mkM g:=by
 unfold mkE mkM;rw[h];exact⟨rfl,rfl⟩
theorem FV{f g:Nat->Nat}(h:arr 16 f=arr 16 g)(u:Nat)(s:List Nat):iO f u s=iO g u s:=by
 obtain⟨h1,D⟩:=PE h;unfold iO;rw[h1,D]
theorem PF{key nn:Nat->Nat}{t:TkD}{a:AuD}(ht:TkOk t)(ha:AuOk a):rqO key (aG (pS key nn t a))=(({ t with key:=nth (arr 16 t.key) },a),0):=by
 have h1:=AD ht;have K:=tG ha;have D:dK (aG (pS key nn t a))=(aG (iH key 2 nn (tkN t)),aG (iH t.key 11 nn (auN a)),true):=by
  unfold pS;exact SG _ _ (by rw[lG,lG];omega)
 have I:tkO key (aG (iH key 2 nn (tkN t)))=({ t with key:=nth (arr 16 t.key) },0):=by
  unfold tkO;rw[rG,DV];simp only;rw[U7 ht];rfl
 have J:auO (nth (arr 16 t.key)) (aG (iH t.key 11 nn (auN a)))=(a,0):=by
  unfold auO;rw[rG,FV (SH 16 t.key),DV];simp only;rw[U8 ha];rfl
 unfold rqO;rw[D];simp only;rw[jQ (by simp),I];simp only;rw[jQ (by simp),J];simp only;rw[jQ (by simp)]
end
section
open Go.RowKit
attribute [local irreducible] wpQuiet wpAnyH
structure QS(N:Nat)(d:DiskD)(C:CacheD)(b:Nat):Prop where
 q:∃ sec st r,d=qD sec [] st r/\sec.length=N/\st<=r/\r<=100*b
 brk:C.L.brk=false
 side:C.L.side<2
 gen:max C.L.last C.L.gen<=b
 wl:WL C.E
 ri:∀ q∈C.E,bG q=true
 bb:b<=200
theorem QS.more{N:Nat}{d:DiskD}{C:CacheD}{b D:Nat}(h:QS N d C b)(hb:b<=D)(I:D<=200):QS N d C D:=by
 obtain⟨sec,st,r,h1,J,K,O⟩:=h.q;exact⟨⟨sec,st,r,h1,J,K,by omega⟩,h.brk,h.side,by have:=h.gen;omega,h.wl,h.ri,I⟩
theorem FW(L:EL)(e:Wl×Int)(P:Wl×Int->Prop)(h:∀ p∈L,P p)(O:P e):∀ p∈(cR L e).1,P p:=by
 have key:∀(L:EL) (s:EL×Bool),(∀ p∈L,P p)->(∀ p∈s.1,P p)->∀ p∈(L.foldl (dS e) s).1,P p:=by
  intro L;induction L with
  | nil=>intro s _ h;exact h
  | cons q L ih=>
   intro s K hs;refine ih _ (λp D=>K p (List.mem_cons_of_mem _ D)) (λp D=>?_);have R:=K q (List.mem_cons_self ..);unfold dS at D;have J:∀ p∈(if (!s.2 && decide (dJ e q<0))=true then (s.1++[e],true) else s).1,P p:=λp D=>by
    split at D
    ·rcases List.mem_append.1 D with D|D
     ·exact hs p D
     ·rw[List.mem_singleton.1 D];exact O
    ·exact hs p D
   simp only at D;split at D
   ·exact J p D
   ·rcases List.mem_append.1 D with D|D
    ·exact J p D
    ·rw[List.mem_singleton.1 D];exact R
 have I:∀ p∈(uS L e).1,P p:=key L ([],false) h (λp D=>by cases D);intro p D;unfold cR at D;split at D
 ·exact h p D
 ·simp only at D;split at D
  ·exact I p D
  ·rcases List.mem_append.1 D with D|D
   ·exact I p D
   ·rw[List.mem_singleton.1 D];exact O
theorem U9{N b:Nat}{d:DiskD}{C:CacheD}{q:b8}(h:QS N d C b)(Z:EntOk q)(J:bG q=true)(V:C.L.cnt+1<N/2)(hb:b+1<=200):
  ∃ d' D,rC d (N/2) C q=(10,d',D)/\QS N d' D (b+1)/\D.L.cnt=C.L.cnt+1/\D.E=(cR C.E q).1/\D.til=C.til:=by
 obtain⟨sec,st,r,rfl,h2,h3,h4⟩:=h.q;obtain⟨I,r',a1,K,a3,O,R,U⟩:=WG (sec:=sec) (st:=st) (r:=r) (h:=N/2) (L:=C.L) (q:=q) h.brk J h.side V (by omega);unfold rC;rw[jQ (by omega),O,R,U];refine⟨_,_,rfl,⟨⟨I,st+2,r',rfl,by omega,K,by omega⟩,h.brk,h.side,by have:=h.gen;show max C.L.last C.L.gen<=b+1;omega,h.wl.put Z,FW _ _ _ h.ri J,hb⟩,rfl,rfl,rfl⟩
theorem VB{N b:Nat}{d:DiskD}{C:CacheD}{q:b8}{now:Int}(h:QS N d C b)(D:bG q=true)(I:pF C.E q.1 now=false):
  mD d (N/2) C q now=if N/2-1<=C.L.cnt then (match (gI d (N/2) C now).1 with
  | some x=>(zZ (some x),(gI d (N/2) C now).2.1,(gI d (N/2) C now).2.2)
  | none=>rC (gI d (N/2) C now).2.1 (N/2) (gI d (N/2) C now).2.2 q) else rC d (N/2) C q:=by
 unfold bG at D;obtain⟨J,K⟩:=(Bool.and_eq_true _ _).mp D;have O:=of_decide_eq_true J;have R:=of_decide_eq_true K;unfold mD;rw[jQ (by rw[I];simp),jQ (by rw[h.brk];simp),jQ (by omega),jQ (by omega)];rfl
theorem VD{N b:Nat}{d:DiskD}{C:CacheD}{q:b8}{now:Int}(h:QS N d C b)(O:EntOk q)(I:bG q=true)(K:pF C.E q.1 now=false)(J:C.L.cnt+1<N/2)(hb:b+1<=200):
  ∃ d' D,mD d (N/2) C q now=(10,d',D)/\QS N d' D (b+1)/\D.L.cnt=C.L.cnt+1/\D.E=(cR C.E q).1/\D.til=C.til:=by
 rw[VB h I K,jQ (by omega)];exact U9 h O I J hb
theorem QS.new(t:Int):∃ d L,cO (gQ 8)=(none,d,some (L,[]))/\QS 8 d ⟨L,[],t⟩ 1/\L.cnt=0/\d.room<=10:=by
 obtain⟨D,J,h⟩:=O8 8 (by omega);refine⟨_,_,h,⟨⟨_,3,D,rfl,?_,by omega,by omega⟩,rfl,by show 0<2;omega,by show max 0 1<=1;omega,WL.nil,(λq I=>by cases I),by omega⟩,rfl,by show D<=10;omega⟩;rw[List.length_set,List.length_replicate]
theorem SI:(arr 16 (c8 kyK)).toArray=#[.int .u8 1,.int .u8 2,.int .u8 3,.int .u8 0,.int .u8 0,.int .u8 0,.int .u8 0,.int .u8 0,.int .u8 0,.int .u8 0,.int .u8 0,.int .u8 0,.int .u8 0,.int .u8 0,.int .u8 0,.int .u8 0]:=by kernel_rfl
theorem m0(w:Wd):Wc 13 #[] w (Rt w (.agg (arr 16 (c8 kyK)).toArray)):=by
 go_enter func13,ntmps13
 obtain⟨O,I⟩:=je ((arr 16 (c8 kyK)).toArray);have U:(prog.info? 41).map (·.size)=some O.size:=by rw[I,aC];kernel_rfl
 have a2:z8x16.size=O.size:=by rw[I,aC];exact aC 16 _
 have a3:O.all (·.oneCell')=true:=by rw[I];exact aP (λ_=>rfl)
 have a1:prog.built 41 [(0,.int .u8 1),(1,.int .u8 2),(2,.int .u8 3)]=some O:=by
  rw[I,SI]
  kernel_rfl
 go_upto_region 1 with (refine al 41 _ rfl rfl cK ?_)
 obtain⟨w1,D⟩:=je (w.alloc (.cells z8x16 41));have a0:Blk w1 w.heap.size 41 z8x16:=by rw[D];exact Blk.new _ _ _
 have K:Bw w w1:=by rw[D];exact(ji _ w).alloc (ja _) _
 rw[<- D];have HB:=jz K;have HO:=jz I;clear D I K;go_wp2_with (first
  | (refine gF 41 _ rfl rfl rfl a1 ?_)
  | (refine aN 41 (.tmp 0) (.tmp 1) rfl rfl rfl rfl a0 U a2 a3 ?_;intro w3 J R _ _;have V:=jz J;have Z:=jz R;clear J R))
 exact bodyPost_ret (results_cell_row rfl _ _ w.heap.size 41 _ (0,0) _ rfl V underlying41 rfl U) rfl ⟨by rw[<- HO.out],HB.trans Z⟩
end
section
theorem r9{P:Program}{W:Wd}:∀ {laid:List (String×DataW Unit)} {ps:List MemPlace},DataW.LaidVars P W laid ps->∀(i:Nat) (x:String×DataW Unit),laid[i]? = some x->∃ q rest,DataW.LaidVars P W (x :: rest) q
 | [],_,_,i,x,hi=>by simp at hi
 | y :: r,ps,h,0,x,hi=>by
  obtain rfl:y=x:=by simpa using hi
  exact⟨ps,r,h⟩
 | (n,d) :: r,ps,h,i+1,x,hi=>by
  obtain⟨_,_,_,_,_,q,_,_,_,_,D,_⟩:=h;exact r9 D i x (by simpa using hi)
theorem PG{P:Program}{W:Wd}{laid:List (String×DataW Unit)}{D:String}{k:IntKind}{zs:Wl}{g:Nat}{t e:TypeId}{n:Nat}(i:Nat)(hi:laid[i]? = some (D,Lib.tabData k zs))
  (hg:P.globalNamed D=some g) (U:(P.globals[g]?).map (·.type)=some t) (ht:P.underlying t=some (.array n e)) (V:P.underlying e=some (.int k)) (J:P.cellsOf e=1) (K:P.cellsOf t=n)
  (h:laidMet P laid W):Lib.TabIs P W D k zs:=by
 obtain⟨ps,Z,_⟩:=h;obtain⟨q,rest,hx⟩:=r9 Z i _ hi;obtain⟨g',t',cs,fuel,p,q',O,R,I,hd,_,_⟩:=hx;obtain rfl:=Option.some.inj (hg.symm.trans O);obtain rfl:=Option.some.inj (U.symm.trans R);unfold Lib.TabIs;rw[I,<- Lib.cells_of_tab ht V J K hd]
def PH:DataW Unit->Wa
 | .agg l=>(l.map λd=>match d with | .lit (.int k z)=>Value.int k z|_=>Value.nilIface).toArray
 | _=>#[]
def WH(h:Array Obj)(g:Nat)(cs:Wa):Array Obj:=h.modify g λo=>match o with | .cells _ t f=>.cells cs t f|o=>o
theorem TQ : prog.globalNamed "toll/sha.constants" = some 1 := by kernel_rfl
theorem SJ {W : Wd} (h1 : Lib.TabIs prog W "toll/sha.constants" .u32 (shaT.map λn : Nat => (n : Int))) : TabK W := by
 unfold Lib.TabIs World.var? at h1;simp only[TQ,Option.bind_some] at h1;intro i hi;have K:i<shaT.length:=by
  have J:shaT.length=64:=by kernel_rfl
  omega
 cases hh:W.heap[1]? with
 | none=>rw[hh] at h1;cases h1
 | some o=>
  rw[hh] at h1;cases o with
  | cells cs t fz=>
   have D:cs=((shaT.map λn:Nat=>(n:Int)).map λz=>Value.int .u32 z).toArray:=Option.some.inj h1;have I:W.cell? ⟨1,i,none⟩=cs[i]?:=by simp[World.cell?,hh]
   rw[I,D];unfold lN;simp[jn,K]
  | _=>cases h1
theorem SK{W:Wd}(h:laidMetH prog Rows.verifierAcceptsRow.laid W):TabK W:=
 SJ (PG (laid:=Rows.verifierAcceptsRow.laid) (t:=276) (e:=34) 0 (by kernel_rfl) TQ (by kernel_rfl) underlying276 underlying34 (by kernel_rfl) (by kernel_rfl) h)
end
end Go.Proofs.YtjjlaipkkdncfaaGreatDoor
