import Derived.Test.YtiaigidbcljblaaGreatDoorME24
import Derived.Test.YtiaigidbcljblaaGreatDoorME1
import Derived.Deep.Slices
import Derived.Deep.MidRow
import Derived.OpenShut
import Derived.StringKeys
import Derived.Maps.OwnSet
import Derived.Maps.OwnOps
set_option linter.unusedVariables false
set_option linter.unusedSimpArgs false
set_option maxRecDepth 100000
set_option maxHeartbeats 40000000
namespace Go.Proofs.YtiaigidbcljblaaGreatDoor
section
abbrev Bs:=List UInt8
structure OpD where
 kind:Int
 n:Int
 data:Bs
 cuts:List Int
def op0:OpD:=⟨0,0,[],[]⟩
def cutsB(c:List Int):Bool:=c.all fun x=>decide (0≤x) && decide (x≤64)
def rightB(o:OpD):Bool:=
  (o.kind == 3 || o.data.isEmpty) && ((o.kind == 6 || o.cuts.isEmpty) &&
  (if o.kind = 1 then decide (0 ≤ o.n) && decide (o.n ≤ 1099511627776)
   else if o.kind = 2 then o.n == 0
   else if o.kind = 3 then o.n == 0 && decide (o.data.length ≤ 131072)
   else if o.kind = 4 then o.n == 0
   else if o.kind = 5 then decide (1 ≤ o.n) && decide (o.n ≤ 1048576)
   else if o.kind = 6 then decide (0 ≤ o.n) && (decide (o.n ≤ 1048576) && (cutsB o.cuts && decide (o.cuts.length ≤ 20)))
   else false))
def wordL(k:Int):Bs:=
 if k=1 then [116,105,99,107] else if k=2 then [98,111,111,116] else if k=3 then [118,101,114,105,102,121]
 else if k=4 then [99,111,109,112,97,99,116] else if k=5 then [102,97,105,108] else if k=6 then [99,114,97,115,104] else []
def hexD(d:Nat):UInt8:=if d<10 then UInt8.ofNat (48+d) else UInt8.ofNat (87+d)
def hexL(l:Bs):Bs:=l.flatMap fun b=>[hexD (b.toNat/16),hexD (b.toNat % 16)]
def isDig(b:UInt8):Bool:=decide (48≤b.toNat) && decide (b.toNat≤57)
def valB(s:Bs):Nat:=s.foldl (fun n b=>n*10+(b.toNat-48)) 0
def numB(s:Bs):Option Nat:=if decide (1≤s.length) && (decide (s.length≤13) && ((s.head? != some 48 || s.length == 1) && s.all isDig)) then some (valB s) else none
def digV(b:UInt8):Nat:=if 48≤b.toNat∧b.toNat≤57 then b.toNat-48 else if 97≤b.toNat∧b.toNat≤102 then b.toNat-87 else 99
def hexB:Bs→Option Bs
 | []=>some []
 | [_]=>none
 | x :: y :: r=>if digV x≤15∧digV y≤15 then (hexB r).map (UInt8.ofNat (digV x*16+digV y) :: ·) else none
def split(c:UInt8):Bs→List Bs
 | []=>[[]]
 | x :: s=>if x=c then [] :: split c s else (x :: (split c s).headD []) :: (split c s).tail
def cutsOf:List Bs→Option (List Int)
 | []=>some []
 | x :: xs=>(numB x).bind fun(n:Nat)=>(cutsOf xs).map fun l=>(n:Int) :: l
def kindOf(w:Bs):Int:=
 if w=wordL 1 then 1 else if w=wordL 2 then 2 else if w=wordL 3 then 3 else if w=wordL 4 then 4 else if w=wordL 5 then 5 else if w=wordL 6 then 6 else 0
def opW(k:Int)(r:List Bs):Option OpD:=
 if k=1∨k=5 then (match r with | [x]=>(numB x).map fun(n:Nat)=>OpD.mk k (n:Int) [] []|_=>none)
 else if k=2∨k=4 then (match r with | []=>some ⟨k,0,[],[]⟩|_=>none)
 else if k=3 then (match r with | []=>some ⟨3,0,[],[]⟩ | [x]=>if x=[] then none else (hexB x).map fun d=>OpD.mk 3 0 d []|_=>none)
 else if k=6 then (match r with|x :: xs=>(numB x).bind fun(n:Nat)=>(cutsOf xs).map fun cs=>OpD.mk 6 (n:Int) [] cs|_=>none)
 else none
def parseL(s:Bs):Option OpD:=(opW (kindOf ((split 32 s).headD [])) (split 32 s).tail).bind fun o=>if rightB o then some o else none

/-! ### Numbers -/
theorem valB_snoc(s:Bs)(b:UInt8):valB (s++[b])=valB s*10+(b.toNat-48):=by simp[valB,List.foldl_append]
theorem ofNat_toNat{n:Nat}(h:n<256):(UInt8.ofNat n).toNat=n:=by simpa using Nat.mod_eq_of_lt h
theorem dec_big{u:Nat}(h:10≤u):Lib.decDigits u=Lib.decDigits (u/10)++[UInt8.ofNat (48+u % 10)]:=by
 rw[Lib.decDigits,dif_neg (by omega)]
theorem dec_valB:∀(k:Nat) (s:Bs),s.length=k→s≠[]→(s.head?≠some 48∨s.length=1)→s.all isDig=true→Lib.decDigits (valB s)=s:=by
 intro k
 induction k with
 | zero=>intro s h hne;exact absurd (List.length_eq_zero_iff.1 h) hne
 | succ k ih=>
  intro s hk hne hh hd
  obtain⟨t,b,rfl⟩:∃ t b,s=t++[b]:=⟨s.dropLast,s.getLast hne,(List.dropLast_concat_getLast hne).symm⟩
  rw[List.all_append,Bool.and_eq_true] at hd
  have hb:isDig b=true:=by simpa using hd.2
  unfold isDig at hb
  simp only[Bool.and_eq_true,decide_eq_true_eq] at hb
  have eb:UInt8.ofNat (48+(b.toNat-48))=b:=by
   rw[show 48+(b.toNat-48)=b.toNat by omega];simp
  rw[valB_snoc]
  rcases t with _|⟨x,t⟩
  ·show Lib.decDigits (valB []*10+(b.toNat-48))=[b]
   rw[show valB []*10+(b.toNat-48)=b.toNat-48 by simp[valB],Lib.decDigits_one (by omega),eb]
  ·have hh':(x :: t).head?≠some 48:=by
    rcases hh with h|h
    ·simpa using h
    ·simp at h
   have ht:=ih (x :: t) (by simp at hk ⊢;omega) (by simp) (.inl hh') hd.1
   have hv:1≤valB (x :: t):=by
    rcases Nat.eq_zero_or_pos (valB (x :: t)) with h|h
    ·rw[h,Lib.decDigits_one (by omega)] at ht
     rw[← ht] at hh'
     exact absurd rfl hh'
    ·exact h
   rw[dec_big (by omega),show(valB (x :: t)*10+(b.toNat-48))/10=valB (x :: t) by omega,show(valB (x :: t)*10+(b.toNat-48)) % 10=b.toNat-48 by omega,ht,eb]
theorem valB_lt:∀(k:Nat) (s:Bs),s.length=k→s.all isDig=true→valB s<10 ^ k:=by
 intro k
 induction k with
 | zero=>intro s h _;rw[List.length_eq_zero_iff.1 h];simp[valB]
 | succ k ih=>
  intro s hk hd
  have hne:s≠[]:=by intro e;rw[e] at hk;simp at hk
  obtain⟨t,b,rfl⟩:∃ t b,s=t++[b]:=⟨s.dropLast,s.getLast hne,(List.dropLast_concat_getLast hne).symm⟩
  rw[List.all_append,Bool.and_eq_true] at hd
  have hb:isDig b=true:=by simpa using hd.2
  unfold isDig at hb
  simp only[Bool.and_eq_true,decide_eq_true_eq] at hb
  have:=ih t (by simp at hk;omega) hd.1
  rw[valB_snoc,Nat.pow_succ]
  omega
theorem numB_some{s:Bs}{n:Nat}(h:numB s=some n):Lib.itoa (n:Int)=s∧n<10000000000000:=by
 unfold numB at h
 split at h
 ·rename_i hc
  simp only[Bool.and_eq_true,decide_eq_true_eq,Bool.or_eq_true,bne_iff_ne,beq_iff_eq] at hc
  obtain⟨h1,h2,h3,h4⟩:=hc
  obtain rfl:valB s=n:=by simpa using h
  refine⟨?_,?_⟩
  ·rw[Lib.itoa_nonneg]
   exact dec_valB _ s rfl (by intro e;rw[e] at h1;simp at h1) h3 h4
  ·exact Nat.lt_of_lt_of_le (valB_lt _ s rfl h4) (Nat.le_trans (Nat.pow_le_pow_right (by omega) h2) (by decide))
 ·cases h
theorem hexD_digV(c:UInt8)(h:digV c≤15):hexD (digV c)=c:=by
 have key:∀ n,n<256→digV (UInt8.ofNat n)≤15→hexD (digV (UInt8.ofNat n))=UInt8.ofNat n:=by decide +kernel
 have:=key c.toNat (UInt8.toNat_lt c)
 simp only[UInt8.ofNat_toNat] at this
 exact this h
theorem hexL_hexB:∀(k:Nat) (s d:Bs),s.length≤k→hexB s=some d→hexL d=s:=by
 intro k
 induction k with
 | zero=>
  intro s d h e
  obtain rfl:=List.length_eq_zero_iff.1 (Nat.le_zero.1 h)
  unfold hexB at e
  cases e
  rfl
 | succ k ih=>
  intro s d h e
  match s with
  | []=>unfold hexB at e;cases e;rfl
  | [_]=>unfold hexB at e;cases e
  | x :: y :: r=>
   unfold hexB at e
   split at e
   ·rename_i hc
    rw[Option.map_eq_some_iff] at e
    obtain⟨d',h1,rfl⟩:=e
    have:=ih r d' (by simp at h;omega) h1
    show hexD ((UInt8.ofNat (digV x*16+digV y)).toNat/16) :: hexD ((UInt8.ofNat (digV x*16+digV y)).toNat % 16) :: hexL d'=_
    rw[ofNat_toNat (by omega),show(digV x*16+digV y)/16=digV x by omega,show(digV x*16+digV y) % 16=digV y by omega,hexD_digV x hc.1,hexD_digV y hc.2,this]
   ·cases e
theorem hexD_dig:∀ d,d<16→digV (hexD d)≤15:=by decide
theorem hexL_nosp(l:Bs)(c:UInt8)(hc:digV c=99):c ∉ hexL l:=by
 intro hm
 unfold hexL at hm
 rw[List.mem_flatMap] at hm
 obtain⟨b,_,hb⟩:=hm
 have hlt:=UInt8.toNat_lt b
 simp only[List.mem_cons,List.not_mem_nil,or_false] at hb
 rcases hb with rfl|rfl
 ·have:=hexD_dig (b.toNat/16) (by omega);omega
 ·have:=hexD_dig (b.toNat % 16) (by omega);omega
theorem split_cons(c x:UInt8)(s:Bs):split c (x :: s)=if x=c then [] :: split c s else (x :: (split c s).headD []) :: (split c s).tail:=rfl
theorem split_ne(c:UInt8)(s:Bs):split c s≠[]:=by
 cases s with
 | nil=>simp[split]
 | cons x s=>rw[split_cons];split <;> simp
theorem split_form(c:UInt8)(s:Bs):∃ w ws,split c s=w :: ws:=List.exists_cons_of_ne_nil (split_ne c s)
theorem split_word(c:UInt8):∀ w:Bs,c ∉ w→split c w=[w]
 | [],_=>rfl
 | x :: w,h=>by
  have hx:x≠c:=fun e=>h (by rw[e];simp)
  have hw:=split_word c w (fun e=>h (by simp[e]))
  rw[split_cons,if_neg hx,hw];rfl
theorem split_app(c:UInt8):∀(w s:Bs),c ∉ w→split c (w++c :: s)=w :: split c s
 | [],s,_=>by show split c (c :: s)=_;rw[split_cons,if_pos rfl]
 | x :: w,s,h=>by
  have hx:x≠c:=fun e=>h (by rw[e];simp)
  have hw:=split_app c w s (fun e=>h (by simp[e]))
  rw[List.cons_append,split_cons,if_neg hx,hw];rfl
theorem kindOf_word{k:Int}(h:k=1∨k=2∨k=3∨k=4∨k=5∨k=6):kindOf (wordL k)=k:=by
 rcases h with rfl|rfl|rfl|rfl|rfl|rfl <;> decide
theorem word_kindOf{w:Bs}(h:kindOf w≠0):wordL (kindOf w)=w:=by
 unfold kindOf at h ⊢
 repeat (split;· rename_i e;exact e.symm)
 simp_all
structure RightP(o:OpD):Prop where
 data:o.kind=3∨o.data=[]
 cuts:o.kind=6∨o.cuts=[]
 n:(0≤o.n∧o.n≤1099511627776)∧((o.kind=2∨o.kind=3∨o.kind=4)→o.n=0)
 cut:∀ x∈o.cuts,0≤x∧x≤64
theorem cutsB_iff(c:List Int):cutsB c=true ↔ ∀ x∈c,0≤x∧x≤64:=by
 unfold cutsB
 rw[List.all_eq_true]
 simp only[Bool.and_eq_true,decide_eq_true_eq]
end
section
open Go.RowKit
def namesL:List ByteArray:=[⟨#[78,79,78,69]⟩,⟨#[77,65,76,70,79,82,77,69,68]⟩,⟨#[66,65,68,95,73,78,84,69,71,82,73,84,89]⟩,⟨#[84,75,84,95,78,89,86]⟩,⟨#[84,75,84,95,69,88,80,73,82,69,68]⟩,⟨#[66,65,68,77,65,84,67,72]⟩,⟨#[83,75,69,87]⟩,⟨#[81,85,65,82,65,78,84,73,78,69]⟩,⟨#[82,69,80,69,65,84]⟩,⟨#[83,84,79,82,65,71,69]⟩,⟨#[65,67,67,69,80,84]⟩,⟨#[70,65,73,76,69,68]⟩,⟨#[68,79,87,78]⟩,⟨#[70,85,76,76]⟩,⟨#[67,79,82,82,85,80,84]⟩,⟨#[66,65,68]⟩,⟨#[83,89,78,84,65,88]⟩]
def nameOf(c:Int):ByteArray:=if 0≤c∧c≤16 then namesL.getD c.toNat ByteArray.empty else ByteArray.empty
theorem nameOf_out(c:Int)(h:c<0∨16<c):nameOf c=ByteArray.empty:=by unfold nameOf;rw[if_neg (by omega)]
theorem names_get(c:Nat)(h:c<17):([Value.string ⟨#[78,79,78,69]⟩,Value.string ⟨#[77,65,76,70,79,82,77,69,68]⟩,Value.string ⟨#[66,65,68,95,73,78,84,69,71,82,73,84,89]⟩,Value.string ⟨#[84,75,84,95,78,89,86]⟩,Value.string ⟨#[84,75,84,95,69,88,80,73,82,69,68]⟩,Value.string ⟨#[66,65,68,77,65,84,67,72]⟩,Value.string ⟨#[83,75,69,87]⟩,Value.string ⟨#[81,85,65,82,65,78,84,73,78,69]⟩,Value.string ⟨#[82,69,80,69,65,84]⟩,Value.string ⟨#[83,84,79,82,65,71,69]⟩,Value.string ⟨#[65,67,67,69,80,84]⟩,Value.string ⟨#[70,65,73,76,69,68]⟩,Value.string ⟨#[68,79,87,78]⟩,Value.string ⟨#[70,85,76,76]⟩,Value.string ⟨#[67,79,82,82,85,80,84]⟩,Value.string ⟨#[66,65,68]⟩,Value.string ⟨#[83,89,78,84,65,88]⟩])[c] = .string (nameOf c):=by
 have hc:c=0∨c=1∨c=2∨c=3∨c=4∨c=5∨c=6∨c=7∨c=8∨c=9∨c=10∨c=11∨c=12∨c=13∨c=14∨c=15∨c=16:=by omega
 rcases hc with rfl|rfl|rfl|rfl|rfl|rfl|rfl|rfl|rfl|rfl|rfl|rfl|rfl|rfl|rfl|rfl|rfl <;> rfl
theorem ret_string{v:Value}{s:ByteArray}(h:v = .string s):Ending.returned v = .returned (.string s):=by rw[h]
theorem name_out(c:Int)(hc:c<0∨16<c)(w:World):
  Calls Tryz.prog 19 #[.int .i64 c] w fun e w'=>e = .returned (.string (nameOf c))∧Below w.heap.size w w':=by
 have hn:=Lib.hid (nameOf_out c hc)
 rcases hc with hc|hc
 all_goals
  go_enter Tryz.func19,Tryz.ntmps19
  go_wp2
  go_ret
  exact⟨by rw[hn.out];rfl,Below.refl _ _⟩
theorem name_in(c:Nat)(hc:c≤16)(w:World):
  Calls Tryz.prog 19 #[.int .i64 c] w fun e w'=>e = .returned (.string (nameOf c))∧Below w.heap.size w w':=by
 have h0:¬((c:Int)<0):=by omega
 have h1:¬((16:Int)<c):=by omega
 have h2:c<17:=by omega
 go_enter Tryz.func19,Tryz.ntmps19
 go_wp2
 go_ret
 exact⟨ret_string (names_get c h2),(by repeat (first|exact Below.refl _ _|assumption|refine bdrewN ?_ _|refine Below.setCell ?_ (by first|exact Nat.le_refl _|assumption|omega|(simp <;> omega)) _|refine Below.alloc ?_ (by first|exact Nat.le_refl _|assumption|omega|(simp <;> omega)) _))⟩
theorem name_any(c:Int)(w:World):
  Calls Tryz.prog 19 #[.int .i64 c] w fun e w'=>e = .returned (.string (nameOf c))∧Below w.heap.size w w':=by
 by_cases h:c<0∨16<c
 ·exact name_out c h w
 ·obtain⟨n,rfl⟩:∃ n:Nat,c=n:=⟨c.toNat,by omega⟩
  exact name_in n (by omega) w
end
section
open Go.RowKit Go.ChangeShapes Go.WideShapes Go.Deep
structure RowD where
 kind:Int
 code:Int
 now:Int
 live:Int
 dig:List Int
def rowC(r:RowD):List Value:=.int .i64 r.kind :: .int .i64 r.code :: .int .i64 r.now :: .int .i64 r.live :: u8s r.dig
structure RowOk(r:RowD):Prop where
 kind:isI64 r.kind
 code:isI64 r.code
 now:isI64 r.now
 live:isI64 r.live
 dig:r.dig.length=32
 bytes:∀ b∈r.dig,0≤b∧b≤255
theorem rowC_length{r:RowD}(h:RowOk r):(rowC r).length=36:=by simp[rowC,u8s,h.dig]
section
variable {H : Type} {enc : TypeId × Value → H} {w : World} {base : Nat} {spare : Nat → Bool} {held : Bool}
theorem u8s_of:∀ {cs:List Value},(∀ c∈cs,∃ n:Int,c = .int .u8 n∧0≤n∧n≤255)→∃ d:List Int,cs=u8s d∧∀ b∈d,0≤b∧b≤255
 | [],_=>⟨[],rfl,fun _ h=>by cases h⟩
 | c :: cs,h=>by
  obtain⟨n,rfl,hn⟩:=h c (by simp)
  obtain⟨d,rfl,hd⟩:=u8s_of (cs:=cs) (fun c hc=>h c (by simp[hc]))
  exact⟨n :: d,rfl,fun b hb=>by
   rcases List.mem_cons.1 hb with rfl|hb
   ·exact hn
   ·exact hd b hb⟩
theorem bytes_cells{t fuel n:Nat}{cs:List Value}{x:DataW H×List MemPlace}(ht:Tryz.prog.underlying t=some (.array n 5))(hC:Tryz.prog.cellsOf t=n)(h:DataW.trod enc Tryz.prog w base spare held fuel t cs=some x):
  ∃ d:List Int,cs=u8s d∧d.length=n∧∀ b∈d,0≤b∧b≤255:=by
 obtain⟨xs,m,_,_,hl,hx,hi⟩:=DataW.trod_array ht h
 have h1:Tryz.prog.cellsOf 5=1:=by kernel_rfl
 rw[hC] at hl
 rw[h1] at hi
 obtain⟨d,rfl,hd⟩:=u8s_of (cs:=cs) (fun c hc=>by
  obtain⟨i,hi',rfl⟩:=List.getElem_of_mem hc
  have hit:=hi i (by omega)
  rw[Nat.mul_one] at hit
  have e:(cs.drop i).take 1=[cs[i]]:=by rw[List.drop_eq_getElem_cons hi'];rfl
  rw[e] at hit
  have hxi:xs[i]? = some xs[i]:=List.getElem?_eq_getElem (by omega)
  rw[hxi] at hit
  obtain⟨k,hk,_,hw⟩:=DataW.trod_int Tryz.underlying5 hit
  simp only[List.cons.injEq,and_true] at hk
  exact⟨k,hk,bounds_u8 hw⟩)
 exact⟨d,rfl,by simpa [u8s] using hl,hd⟩
theorem row_cells{fuel:Nat}{cs:List Value}{x:DataW H×List MemPlace}(h:DataW.trod enc Tryz.prog w base spare held fuel 28 cs=some x):∃ r:RowD,RowOk r∧cs=rowC r:=by
 obtain⟨xs,n,_,_,hl,hx,hf⟩:=DataW.trod_struct Tryz.underlying28 h
 have hC:Tryz.prog.cellsOf 28=36:=by kernel_rfl
 rw[hC] at hl
 have hx5:xs.length=5:=hx
 have g:∀ i,i<5→xs[i]? = some (xs[i]?.getD (.nil,[])):=fun i hi=>by simp[List.getElem?_eq_getElem (show i<xs.length by omega)]
 have f0:=(hf 0 _ rfl).trans (g 0 (by omega))
 have f1:=(hf 1 _ rfl).trans (g 1 (by omega))
 have f2:=(hf 2 _ rfl).trans (g 2 (by omega))
 have f3:=(hf 3 _ rfl).trans (g 3 (by omega))
 have f4:=(hf 4 _ rfl).trans (g 4 (by omega))
 obtain⟨k0,h0,_,w0⟩:=DataW.trod_int Tryz.underlying3 f0
 obtain⟨k1,h1,_,w1⟩:=DataW.trod_int Tryz.underlying3 f1
 obtain⟨k2,h2,_,w2⟩:=DataW.trod_int Tryz.underlying2 f2
 obtain⟨k3,h3,_,w3⟩:=DataW.trod_int Tryz.underlying3 f3
 obtain⟨d,h4,hd,hb⟩:=bytes_cells (n:=32) Tryz.underlying26 (by kernel_rfl) f4
 have c0:Tryz.prog.cellsOf 3=1:=by kernel_rfl
 have c2:Tryz.prog.cellsOf 2=1:=by kernel_rfl
 have c4:Tryz.prog.cellsOf 26=32:=by kernel_rfl
 refine⟨⟨k0,k1,k2,k3,d⟩,⟨isI64_of w0,isI64_of w1,isI64_of w2,isI64_of w3,hd,hb⟩,?_⟩
 replace h0:(cs.drop 0).take (Tryz.prog.cellsOf 3)=[.int .i64 k0]:=h0
 replace h1:(cs.drop 1).take (Tryz.prog.cellsOf 3)=[.int .i64 k1]:=h1
 replace h2:(cs.drop 2).take (Tryz.prog.cellsOf 2)=[.int .i64 k2]:=h2
 replace h3:(cs.drop 3).take (Tryz.prog.cellsOf 3)=[.int .i64 k3]:=h3
 replace h4:(cs.drop 4).take (Tryz.prog.cellsOf 26)=u8s d:=h4
 rw[c0] at h0 h1 h3
 rw[c2] at h2
 rw[c4] at h4
 match cs,hl with
 | v0 :: v1 :: v2 :: v3 :: rest,hl=>
  simp at h0 h1 h2 h3 h4 hl
  subst h0 h1 h2 h3
  rw[List.take_of_length_le (by omega)] at h4
  subst h4
  rfl
theorem open_rows{fuel:Nat}{A:Option Addr}{len cap:Nat}{x:DataW H×List MemPlace}(h:DataW.trod enc Tryz.prog w base (fun _=>true) held fuel 22 [.slice A len cap]=some x):
  ∃ l:List RowD,l.length=len∧(∀ r∈l,RowOk r)∧Sn w 36 (.slice A len cap) len (l.flatMap rowC):=by
 rcases open_slice Tryz.underlying22 h with ⟨h0,_⟩|⟨a,len',cap',m,n,D,Pl,hcs,hb,hl,hm,hmm,_,hi⟩
 ·simp only[List.cons.injEq,Value.slice.injEq,and_true] at h0
  obtain⟨rfl,rfl,rfl⟩:=h0
  exact⟨[],rfl,fun _ h=>(by cases h),⟨none,0,rfl,Nat.le_refl _,rfl,fun h=>absurd h (by omega)⟩⟩
 ·simp only[List.cons.injEq,Value.slice.injEq,and_true] at hcs
  obtain⟨rfl,rfl,rfl⟩:=hcs
  simp only[if_true] at hmm
  subst hmm
  have hC:Tryz.prog.cellsOf 28=36:=by kernel_rfl
  rw[hC] at hi
  have key:∀ k,k≤len→∃ l:List RowD,l.length=k∧(∀ r∈l,RowOk r)∧∀ j u,(l.flatMap rowC)[j]? = some u→w.cell? (a.add j)=some u:=by
   intro k
   induction k with
   | zero=>exact fun _=>⟨[],rfl,fun _ h=>(by cases h),fun j u h=>by simp at h⟩
   | succ k ih=>
    intro hk
    obtain⟨l,hll,hok,hc⟩:=ih (by omega)
    obtain⟨cs',hcs',ht'⟩:=hi k (by omega)
    obtain⟨r,hr,rfl⟩:=row_cells ht'
    obtain⟨_,hlen',hat⟩:=World.cells?_some hcs'
    have hfl:(l.flatMap rowC).length=k*36:=by
     rw[← hll]
     clear hc hll
     induction l with
     | nil=>rfl
     | cons r' l ih2=>simp[List.flatMap_cons,rowC_length (hok r' (by simp)),ih2 (fun r hr=>hok r (by simp[hr]))];omega
    refine⟨l++[r],by simp[hll],fun r' hr'=>?_,fun j u hj=>?_⟩
    ·rcases List.mem_append.1 hr' with h1|h1
     ·exact hok r' h1
     ·simp at h1;subst h1;exact hr
    ·rw[List.flatMap_append] at hj
     by_cases hjk:j<k*36
     ·rw[List.getElem?_append_left (by omega)] at hj
      exact hc j u hj
     ·rw[List.getElem?_append_right (by omega),hfl] at hj
      simp only[List.flatMap_cons,List.flatMap_nil,List.append_nil] at hj
      have hlt:j-k*36<36:=by
       have:=(List.getElem?_eq_some_iff.1 hj).1
       rw[rowC_length hr] at this;exact this
      have:=hat (j-k*36) hlt
      rw[Go.Deep.add_add,show k*36+(j-k*36)=j from by omega] at this
      rw[this];exact hj
  obtain⟨l,hll,hok,hc⟩:=key len (Nat.le_refl _)
  refine⟨l,hll,hok,some a,_,rfl,hl,?_,fun hp=>?_⟩
  ·rw[← hll]
   clear hc hll key
   induction l with
   | nil=>rfl
   | cons r' l ih2=>simp[List.flatMap_cons,rowC_length (hok r' (by simp)),ih2 (fun r hr=>hok r (by simp[hr]))];omega
  ·obtain⟨b,off,spot⟩:=a
   have h0:=hc 0
   have hne:∃ u,(l.flatMap rowC)[0]? = some u:=by
    cases l with
    | nil=>simp at hll;omega
    | cons r l=>exact⟨_,by simp[List.flatMap_cons,rowC];rfl⟩
   obtain⟨u,hu⟩:=hne
   have hspot:spot=none:=by simpa [Addr.add] using World.cell?_spot (h0 u hu)
   subst hspot
   refine⟨b,off,rfl,fun j u hj=>?_⟩
   have:=hc j u hj
   rwa [Addr.add_lit] at this
end
end
section
open Go.RowKit
def lineE(r:RowD):List UInt8:=wordL r.kind++[32]++(nameOf r.code).data.toList++[32]++Lib.itoa r.now++[32]++Lib.itoa r.live++[10]
def textE(l:List RowD):List UInt8:=l.flatMap lineE
theorem textE_snoc(l:List RowD)(k:Nat)(h:k<l.length):textE (l.take (k+1))=textE (l.take k)++lineE l[k]:=by
 unfold textE
 rw[List.take_succ_eq_append_getElem h,List.flatMap_append]
 simp
theorem name_len(c:Int):(nameOf c).size≤13:=by
 unfold nameOf
 split
 ·rename_i h
  obtain⟨n,rfl⟩:∃ n:Nat,c=n:=⟨c.toNat,by omega⟩
  have hc:n=0∨n=1∨n=2∨n=3∨n=4∨n=5∨n=6∨n=7∨n=8∨n=9∨n=10∨n=11∨n=12∨n=13∨n=14∨n=15∨n=16:=by omega
  rcases hc with rfl|rfl|rfl|rfl|rfl|rfl|rfl|rfl|rfl|rfl|rfl|rfl|rfl|rfl|rfl|rfl|rfl <;> decide
 ·decide
theorem word_len(k:Int):(wordL k).length≤7:=by
 unfold wordL
 repeat (first|split|decide)
theorem lineE_len(r:RowD)(h1:isI64 r.now)(h2:isI64 r.live):(lineE r).length≤64:=by
 have a:=itoa_len r.now h1.1 h1.2
 have b:=itoa_len r.live h2.1 h2.2
 have c:=word_len r.kind
 have d:=name_len r.code
 have e:(nameOf r.code).data.toList.length=(nameOf r.code).size:=by rw[Array.length_toList];rfl
 simp only[lineE,List.length_append,List.length_cons,List.length_nil,e]
 omega
theorem textE_len(l:List RowD)(h:∀ r∈l,isI64 r.now∧isI64 r.live):(textE l).length≤64*l.length:=by
 induction l with
 | nil=>simp[textE]
 | cons f fs ih=>
  have h1:=lineE_len f (h f (by simp)).1 (h f (by simp)).2
  have h2:=ih (fun g hg=>h g (by simp[hg]))
  unfold textE at h2 ⊢
  rw[List.flatMap_cons,List.length_append,List.length_cons]
  omega
end
section
open Go.RowKit
attribute [local irreducible] wpQuiet wpAnyH
def dataI(d:Bs):List Int:=d.map fun b=>(b.toNat:Int)
theorem bytes_u8s(d:Bs):Lib.byteCells d=u8s (dataI d):=by simp[Lib.byteCells,u8s,dataI]
theorem dataI_length(d:Bs):(dataI d).length=d.length:=by simp[dataI]
theorem dataI_bys(d:Bs):Bys (dataI d):=fun b hb=>by
 obtain⟨x,_,rfl⟩:=List.mem_map.1 hb
 have:=x.toNat_lt
 omega
structure ConfD where
 key:Nat→Nat
 skew:Int
 sec:Int
def confC(c:ConfD):List Value:=arr 16 (c8 c.key)++[.int .i64 c.skew,.int .i64 c.sec]
def rightC(c:ConfD):Bool:=decide (1≤c.skew) && (decide (c.skew≤1073741824) && (decide (2≤c.sec) && decide (c.sec≤4096)))
abbrev VerF:=VS→List Int→(Int×List Int)×VS
def z32L:List Int:=List.replicate 32 0
def actS(V:VerF)(skew:Int)(s:VS)(o:OpD):(Int×List Int)×VS:=
 if o.kind=1 then ((0,z32L),tickS s o.n)
 else if o.kind=2 then ((codeA (bootS skew s).1,z32L),(bootS skew s).2)
 else if o.kind=3 then V s (dataI o.data)
 else if o.kind=4 then ((codeA (compS s).1,z32L),(compS s).2)
 else if o.kind=5 then ((0,z32L),⟨planF s.d o.n,s.now,s.co⟩)
 else ((0,z32L),⟨if o.n=0 then crashD s.d o.cuts else planC s.d o.n o.cuts,s.now,s.co⟩)
def rowE(V:VerF)(skew:Int)(s:VS)(o:OpD):RowD:=⟨o.kind,(actS V skew s o).1.1,(actS V skew s o).2.now,(liveS (actS V skew s o).2).length,(actS V skew s o).1.2⟩
def nextS(V:VerF)(skew:Int)(s:VS)(o:OpD):VS:=lookS (actS V skew s o).2
def stateL(V:VerF)(skew:Int)(s:VS)(l:List OpD):VS:=l.foldl (nextS V skew) s
def rowsL(V:VerF)(skew:Int):VS→List OpD→List RowD
 | _,[]=>[]
 | s,o :: l=>rowE V skew s o :: rowsL V skew (nextS V skew s o) l
theorem rowsL_append(V:VerF)(skew:Int):∀(s:VS) (l m:List OpD),rowsL V skew s (l++m)=rowsL V skew s l++rowsL V skew (stateL V skew s l) m
 | s,[],m=>rfl
 | s,o :: l,m=>by
  show rowE V skew s o :: rowsL V skew (nextS V skew s o) (l++m)=_
  rw[rowsL_append V skew (nextS V skew s o) l m]
  rfl
theorem rowsL_snoc(V:VerF)(skew:Int)(s:VS)(l:List OpD)(k:Nat)(h:k<l.length):rowsL V skew s (l.take (k+1))=rowsL V skew s (l.take k)++[rowE V skew (stateL V skew s (l.take k)) l[k]]:=by
 rw[List.take_succ_eq_append_getElem h,rowsL_append]
 rfl
theorem stateL_snoc(V:VerF)(skew:Int)(s:VS)(l:List OpD)(k:Nat)(h:k<l.length):stateL V skew s (l.take (k+1))=nextS V skew (stateL V skew s (l.take k)) l[k]:=by
 unfold stateL
 rw[List.take_succ_eq_append_getElem h,List.foldl_append]
 rfl
theorem rowsL_length(V:VerF)(skew:Int):∀(s:VS) (l:List OpD),(rowsL V skew s l).length=l.length
 | _,[]=>rfl
 | s,o :: l=>by
  show(rowsL V skew (nextS V skew s o) l).length+1=_
  rw[rowsL_length V skew (nextS V skew s o) l]
  rfl
def badAt(l:List OpD):Option Nat:=l.findIdx? fun o=>!rightB o
def runR(V:VerF)(c:ConfD)(l:List OpD):Ans×List RowD:=
 if rightC c=false then (some (15,none),[]) else match badAt l with
 | some i=>(some (16,some (i:Int)),[])
 | none=>(none,rowsL V c.skew ⟨newD c.sec.toNat,0,none⟩ l)
section
variable {w0 w w' : World} {gv g9 k N : Nat} {key : Nat → Nat} {skew : Int} {s : VS} {X : Nat → Prop}
theorem VE.off{g:Nat}(h:VE w0 w gv g9 k N key skew s X)(ho:Off g w w')(hg:X g)(hl:w0.heap.size≤g):VE w0 w' gv g9 k N key skew s X:=by
 obtain⟨m,cv,F,h1,hv,hx⟩:=h
 have hf:=(hx g hg).1
 have hne:gv≠g:=fun e=>hf.2 (e ▸ List.mem_cons_self ..)
 exact⟨m,cv,F,h1,⟨⟨hv.st.dk.offO ho hf.1,hv.st.ft,hv.st.bel.trans (ho.below hl hv.st.bel.size)⟩,ho.blk hv.blk hne,hv.co.off ho ⟨hf.1,fun hm=>hf.2 (List.mem_cons.2 (.inr hm))⟩,hv.far,hv.lo,hv.now,hv.skew,hv.len,hv.few,hv.rm⟩,fun b hb=>⟨(hx b hb).1,Nat.lt_of_lt_of_le (hx b hb).2 ho.size⟩⟩
theorem VE.drew(h:VE w0 w gv g9 k N key skew s X):VE w0 w.drew gv g9 k N key skew s X:=h.keep (Below.refl _ _).drew
theorem VE.now(h:VE w0 w gv g9 k N key skew s X):0≤s.now∧s.now≤1099511627776:=by
 obtain⟨m,cv,F,_,hv,_⟩:=h
 exact hv.now
theorem VE.lo(h:VE w0 w gv g9 k N key skew s X):w0.heap.size≤w.heap.size:=h.bel.size
theorem e_tick(n:Int)(hn:isI64 n)(h:VE w0 w gv g9 k N key skew s X):Calls Tryz.prog 68 #[.pointer (some ⟨gv,0,none⟩),.int .i64 n] w fun e w'=>e = .returned (.int .i64 (tickN s.now n))∧VE w0 w' gv g9 k N key skew (tickS s n) X∧XT X w w':=by
 obtain⟨m,cv,F,hg,hv,hx⟩:=h
 refine(v_tick n hn hv).mono ?_
 rintro e w' ⟨rfl,cv',F',h1,h2⟩
 exact⟨rfl,VE.of hx hg h1 h2⟩
theorem e_now(h:VE w0 w gv g9 k N key skew s X):Calls Tryz.prog 47 #[.pointer (some ⟨gv,0,none⟩)] w fun e w'=>e = .returned (.int .i64 s.now)∧VE w0 w' gv g9 k N key skew (lookS s) X∧XT X w w':=by
 obtain⟨m,cv,F,hg,hv,hx⟩:=h
 refine(v_now hv).mono ?_
 rintro e w' ⟨rfl,cv',F',h1,h2⟩
 exact⟨rfl,VE.of hx hg h1 h2⟩
theorem e_live(hk:k≤60)(h:VE w0 w gv g9 k N key skew s X):Calls Tryz.prog 48 #[.pointer (some ⟨gv,0,none⟩)] w fun e w'=>∃ A c,e = .returned (.slice A (liveS s).length c)∧Sn w' 33 (.slice A (liveS s).length c) (liveS s).length ((liveS s).flatMap entP)∧VE w0 w' gv g9 k N key skew (lookS s) X∧XT X w w':=by
 obtain⟨m,cv,F,hg,hv,hx⟩:=h
 refine(v_live hv (by omega)).mono ?_
 rintro e w' ⟨v,rfl,hs,cv',F',h1,h2⟩
 obtain⟨A,c,rfl,_⟩:=id hs
 exact⟨A,c,rfl,hs,VE.of hx hg h1 h2⟩
theorem e_boot(hk:k≤60)(h:VE w0 w gv g9 k N key skew s X):Calls Tryz.prog 69 #[.pointer (some ⟨gv,0,none⟩)] w fun e w'=>e = .returned (valE (bootS skew s).1)∧VE w0 w' gv g9 (k+1) N key skew (bootS skew s).2 X∧XT X w w':=by
 obtain⟨m,cv,F,hg,hv,hx⟩:=h
 refine(v_boot hv (by omega)).mono ?_
 rintro e w' ⟨rfl,m',cv',F',h1,h2⟩
 exact⟨rfl,VE.of hx hg h1 h2⟩
theorem e_compact(hk:k≤60)(h:VE w0 w gv g9 k N key skew s X):Calls Tryz.prog 73 #[.pointer (some ⟨gv,0,none⟩)] w fun e w'=>e = .returned (valE (compS s).1)∧VE w0 w' gv g9 (k+1) N key skew (compS s).2 X∧XT X w w':=by
 obtain⟨m,cv,F,hg,hv,hx⟩:=h
 refine(v_compact hv hk).mono ?_
 rintro e w' ⟨rfl,m',cv',F',h1,h2⟩
 exact⟨rfl,VE.of hx hg h1 h2⟩
theorem e_fail(n:Int)(hn:n≤1000000000)(hk:k≤60)(h:VE w0 w gv g9 k N key skew s X):Calls Tryz.prog 74 #[.pointer (some ⟨g9,0,none⟩),.int .i64 n] w fun e w'=>e = .returned (.tuple #[])∧VE w0 w' gv g9 (k+1) N key skew ⟨planF s.d n,s.now,s.co⟩ X∧XT X w w':=by
 obtain⟨m,cv,F,rfl,hv,hx⟩:=h
 have hr:=hv.rm
 have hb:=(plan_bd s.d n []).1
 refine(disk_fail n w m s.d hv.st.dk hn (by omega)).mono ?_
 rintro e w' ⟨rfl,m',h1,h2⟩
 have h3:=hv.disk (k':=k+1) h1 h2 hb.2 (by omega) (by omega)
 exact⟨rfl,VE.of hx rfl h3.1 h3.2⟩
theorem e_crashAt(n:Int)(va:Value)(cl:List Int)(hs:Sn w 1 va cl.length (i64s cl))(hc:cl.length≤100000)(hn:n≤1000000000)(hk:k≤60)(h:VE w0 w gv g9 k N key skew s X):Calls Tryz.prog 76 #[.pointer (some ⟨g9,0,none⟩),.int .i64 n,va] w fun e w'=>e = .returned (.tuple #[])∧VE w0 w' gv g9 (k+1) N key skew ⟨planC s.d n cl,s.now,s.co⟩ X∧XT X w w':=by
 obtain⟨m,cv,F,rfl,hv,hx⟩:=h
 have hr:=hv.rm
 have hb:=(plan_bd s.d n cl).2
 refine(disk_crashAt n va cl w m s.d hv.st.dk hs (by omega) hn (by omega)).mono ?_
 rintro e w' ⟨rfl,m',h1,h2⟩
 have h3:=hv.disk (k':=k+1) h1 h2 hb.2 (by omega) (by omega)
 exact⟨rfl,VE.of hx rfl h3.1 h3.2⟩
theorem e_crash(cl:List Int)(A:Option Addr)(c:Nat)(hs:Sn w 1 (.slice A cl.length c) cl.length (i64s cl))(hc:cl.length≤100000)(hk:k≤60)(h:VE w0 w gv g9 k N key skew s X):Calls Tryz.prog 75 #[.pointer (some ⟨g9,0,none⟩),.slice A cl.length c] w fun e w'=>e = .returned (.tuple #[])∧VE w0 w' gv g9 (k+1) N key skew ⟨crashD s.d cl,s.now,s.co⟩ X∧XT X w w':=by
 obtain⟨m,cv,F,rfl,hv,hx⟩:=h
 have hr:=hv.rm
 refine(disk_crash cl A c w m s.d hv.st.dk hs (by omega)).mono ?_
 rintro e w' ⟨rfl,m',h1,h2⟩
 have h3:=hv.disk (k':=k+1) h1 h2 (crashL_len _ _ _) (by show s.d.room≤_;omega) (by omega)
 exact⟨rfl,VE.of hx rfl h3.1 h3.2⟩
end
def machC(key:Nat→Nat)(g9 gv:Nat):Array Value:=(arr 16 (c8 key)++[Value.pointer (some ⟨g9,0,none⟩),Value.pointer (some ⟨gv,0,none⟩)]).toArray
theorem mach_cells{w:World}{gm g9 gv:Nat}{key:Nat→Nat}(h:Blk w gm 106 (machC key g9 gv)):w.cell? ⟨gm,16,none⟩=some (.pointer (some ⟨g9,0,none⟩))∧w.cell? ⟨gm,17,none⟩=some (.pointer (some ⟨gv,0,none⟩))∧w.rangeAt gm 0 (arr 16 (c8 key)):=by
 have h1:∀ j,(machC key g9 gv)[16+j]? = [Value.pointer (some ⟨g9,0,none⟩),.pointer (some ⟨gv,0,none⟩)][j]?:=fun j=>by
  unfold machC
  rw[List.getElem?_toArray,List.getElem?_append_right (by rw[arr_length];omega),arr_length,Nat.add_sub_cancel_left]
 refine⟨(h.cell 16).trans (h1 0),(h.cell 17).trans (h1 1),fun j u hj=>?_⟩
 have hl:j<16:=by
  have:=(List.getElem?_eq_some_iff.1 hj).1
  rwa [arr_length] at this
 have h2:=h.cell j
 rw[Nat.zero_add,h2]
 unfold machC
 rw[List.getElem?_toArray,List.getElem?_append_left (by rw[arr_length];exact hl),hj]
theorem results_tc{P:Program}{w:World}{fn:Func}{p u:Tmp}{ty:TypeId}(h:fn.results=#[.tmp u,.cell p ty])(tmps:Array Value){b off:Nat}{cs:List Value}{d:TypeDesc}(hp:tmps.getD p undef = .pointer (some ⟨b,off,none⟩))(hc:w.rangeAt b off cs)
  (hu:P.underlying ty=some d) (hd:d.isRow=true) (hi:(P.info? ty).map (·.size)=some cs.length):(results fn tmps).run P w = .ok (.tuple #[tmps.getD u undef,.agg cs.toArray]) w:=by
 have h1:tmps[p]?.getD undef = .pointer (some ⟨b,off,none⟩):=by simpa using hp
 simp[results,h,h1,asAddr,Sem.run_bind,Result.andThen,run_loadVar_mid w b off ty cs d hc hu hd hi]
end
section
open Go.RowKit
def SBy(l:Bs):ByteArray:=⟨l.toArray⟩
theorem SB_size(l:Bs):(SBy l).size=l.length:=by simp[SBy,ByteArray.size]
theorem SB_list(l:Bs):(SBy l).data.toList=l:=by simp[SBy]
def SOk(l:Bs):Prop:=l.length≤maxLen
def sv(l:Bs):Value:=.string (SBy l)
def sk(l:Bs):Lit:=.string l
theorem keyedS:Maps.Keyed Tryz.prog 9:=Maps.Keyed.of_law (WideMaps.string_law Tryz.underlying9)
theorem keyOf_mkS{d:Bs}(h:SOk d):keyOf Tryz.prog 9 (sv d)=some (sk d):=by
 have:=WideMaps.keyOf_string_mk (P:=Tryz.prog) Tryz.underlying9 (s:=SBy d) (by rw[SB_size];exact h)
 rw[SB_list] at this
 exact this
theorem sk_inj{d d':Bs}(e:sk d=sk d'):d=d':=by
 unfold sk at e
 exact Lit.string.inj e
theorem sk_key(d:Bs):WideAt.IsKeyLit (sk d):=trivial
def RV:Value→Option (DataW Value×List MemPlace):=fun v=>some (.held v,[])
def SFits(D:DataW Value)(f:Bs→Option Value):Prop:=∀ k,SOk k→match f k with
 | none=>Maps.has D (sk k)=false
 | some v=>Maps.has D (sk k)=true∧∀ z,D.atKey (sk k) z = .held v
def SM(w:World)(b n:Nat)(f:Bs→Option Value):Prop:=∃ D,w.ownsMap Tryz.prog 9 RV b n D∧SFits D f
def sput(f:Bs→Option Value)(k:Bs)(v:Value):Bs→Option Value:=fun x=>if x=k then some v else f x
theorem SM.lt{w:World}{b n:Nat}{f:Bs→Option Value}(h:SM w b n f):b<w.heap.size:=by
 obtain⟨D,h,_⟩:=h
 exact h.lt
theorem SM.of_block{w w':World}{b n:Nat}{f:Bs→Option Value}(h:SM w b n f)(e:w'.heap[b]? = w.heap[b]?):SM w' b n f:=by
 obtain⟨D,⟨es,clock,hb,r⟩,hf⟩:=h
 exact⟨D,⟨es,clock,e.trans hb,r⟩,hf⟩
theorem SM.keep{w w':World}{b n:Nat}{f:Bs→Option Value}(h:SM w b n f)(hb:Below w.heap.size w w'):SM w' b n f:=h.of_block (hb.block b h.lt)
theorem SM.mono{w:World}{b n m:Nat}{f:Bs→Option Value}(h:SM w b n f)(hm:n≤m):SM w b m f:=by
 obtain⟨D,h,hf⟩:=h
 exact⟨D,h.mono hm,hf⟩
theorem SM.made(w:World):SM (w.alloc (.map #[] 0)) w.heap.size 0 (fun _=>none):=
 ⟨.map [],World.ownsMap_made _ _ _ _,fun _ _=>rfl⟩
theorem SM.madeAt(w:World)(b:Nat)(hb:w.heap.size=b):SM (w.alloc (.map #[] 0)) b 0 (fun _=>none):=by
 subst hb;exact SM.made w
theorem SM.congr{w:World}{b n:Nat}{f f':Bs→Option Value}(h:SM w b n f)(e:∀ k,SOk k→f k=f' k):SM w b n f':=by
 obtain⟨D,h,hf⟩:=h
 exact⟨D,h,fun k hk=>by rw[← e k hk];exact hf k hk⟩
theorem SFits.has{D:DataW Value}{f:Bs→Option Value}(h:SFits D f){k:Bs}(hk:SOk k):Maps.has D (sk k)=(f k).isSome:=by
 have:=h k hk
 cases hf:f k with
 | none=>rw[hf] at this;exact this
 | some v=>rw[hf] at this;exact this.1
theorem SFits.at{D:DataW Value}{f:Bs→Option Value}(h:SFits D f){k:Bs}(hk:SOk k)(z:Value):D.atKey (sk k) (.held z) = .held ((f k).getD z):=by
 have:=h k hk
 cases hf:f k with
 | none=>rw[hf] at this;exact Maps.atKey_of_not_has this _
 | some v=>rw[hf] at this;exact this.2 _
section
variable {w : World} {b n : Nat} {f : Bs → Option Value} {tM e : TypeId} (ht : Tryz.prog.underlying tM = some (.map 9 e))
include ht
theorem SM.look(h:SM w b n f){z:Value}(hz:(zeroValue e).run Tryz.prog w = .ok z w){k:Bs}(hk:SOk k):
  (Instr.lookup tM (.map (some b)) (sv k) true).run Tryz.prog w = .ok (.tuple #[(f k).getD z,.bool (f k).isSome]) w:=by
 obtain⟨D,hown,hf⟩:=h
 obtain⟨v,ps,hrun,hv⟩:=hown.look_ok keyedS ht hz (zd:=.held z) (zp:=[]) rfl (keyOf_mkS hk)
 rw[hf.has hk] at hrun
 rw[hf.at hk] at hv
 have hv:=congrArg (fun o:Option (DataW Value×List MemPlace)=>match o with|some (.held x,_)=>x|_=>undef) hv
 dsimp only [RV] at hv
 subst hv
 exact hrun
theorem SM.look1(h:SM w b n f){z:Value}(hz:(zeroValue e).run Tryz.prog w = .ok z w){k:Bs}(hk:SOk k):
  (Instr.lookup tM (.map (some b)) (sv k) false).run Tryz.prog w = .ok ((f k).getD z) w:=by
 obtain⟨D,hown,hf⟩:=h
 obtain⟨v,ps,hrun,hv⟩:=hown.lookup keyedS ht hz (zd:=.held z) (zp:=[]) rfl (keyOf_mkS hk)
 rw[hf.at hk] at hv
 have hv:=congrArg (fun o:Option (DataW Value×List MemPlace)=>match o with|some (.held x,_)=>x|_=>undef) hv
 dsimp only [RV] at hv
 subst hv
 exact hrun
theorem SM.put_run(h:SM w b n f){k:Bs}(hk:SOk k)(v:Value)(hn:n<maxLen):
  ∃ w',(Instr.mapUpdate tM (.map (some b)) (sv k) v).run Tryz.prog w = .ok () w'∧SM w' b (n+1) (sput f k v)∧w.mapTurned w' b:=by
 obtain⟨D,hown,hf⟩:=h
 obtain⟨w',hrun,h',hg'⟩:=hown.store keyedS ht hn (keyOf_mkS hk) (val:=v) (d:=.held v) (ps:=[]) rfl
 refine⟨w',hrun,⟨_,h',fun x hx=>?_⟩,hg'⟩
 unfold sput
 by_cases hxk:x=k
 ·subst hxk
  rw[if_pos rfl]
  exact⟨Maps.has_put_same hown.isMap (sk_key x) _,fun z=>Maps.atKey_put_same hown.isMap (sk_key x) _ z⟩
 ·rw[if_neg hxk]
  have hne:sk x≠sk k:=fun e=>hxk (sk_inj e)
  have:=hf x hx
  cases hfx:f x with
  | none=>rw[hfx] at this;exact(Maps.has_put_other hne _).trans this
  | some t'=>
   rw[hfx] at this
   exact⟨(Maps.has_put_other hne _).trans this.1,fun z=>(Maps.atKey_put_other hne _ z).trans (this.2 z)⟩
theorem sPut{ops:Array Oper}{rest:List Oper}{o:Oper}{a:Act}{Q:Exit→Act→World→Prop}(m x v:Operand)(hop:o.op=Op.mapUpdate tM m x v)(hw:Region.wanted o (yielded ops a.tmps)=true)(hm:a.eval m = .map (some b))(h:SM w b n f){k:Bs}(hk:SOk k)(hx:a.eval x = .string (SBy k))
  {val:Value} (hv:a.eval v=val) (hn:n<maxLen)
  (hK:∀ w',SM w' b (n+1) (sput f k val)→w.mapTurned w' b→wpList Tryz.prog ops Q rest (a.put o.dst undef) w'):wpList Tryz.prog ops Q (o :: rest) a w:=by
 obtain⟨w',hrun,h1,h2⟩:=h.put_run ht hk val hn
 unfold sv at hrun
 refine wpList_step fun K hK'=>?_
 rw[if_pos hw]
 unfold Oper.wp execOp
 simp only[hop,hm,hx,hv,Sem.run_bind,hrun,Result.andThen_ok,Sem.run_pure]
 exact hK' _ _ (hK w' h1 h2)
end
end
end Go.Proofs.YtiaigidbcljblaaGreatDoor
