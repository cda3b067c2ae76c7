import Derived.Test.YtombncedfleljaaGreatMC3
import Derived.WalkMore
import Derived.ScopeJumps
import Derived.Lib.SlBytesConst
import Derived.Shelf.Small.Bits
import Derived.Shelf.Strconv.Itoa0
import Derived.Shelf.Bytes.SlEqualAll
import Derived.Shelf.Bytes.Small
import Derived.Test.YtombncedfleljaaGreatProg
set_option linter.unusedSimpArgs false
set_option maxRecDepth 100000
set_option maxHeartbeats 40000000
namespace Go.Proofs.YtombncedfleljaaGreat
section
open Go.RowKit
attribute [local irreducible] wpQuiet wpAnyH
theorem rE{A:Option Addr}{i j m s k c:Nat}:∀ b,(sliced A i j m s).ownBlock=some b→(Value.slice A k c).ownBlock=some b:=by
 intro b h;unfold Go.sliced at h;cases A with
 | none=>split at h <;> simp[Value.ownBlock] at h
 | some a=>
  obtain⟨p,o,z⟩:=a;split at h
  ·exact h
  ·simp only[Value.ownBlock,Option.map_some,Addr.add] at h;split at h <;> exact h
theorem vR(va:Value)(n:Nat)(xs:List Value)(w:World)(hs:Sn w 1 va n xs)(h1:∀ u∈xs,u.oneCell'=true)(hn:n≤1000000):
  Calls Tryz.prog 140 #[va] w fun e w'=>∃ v,e = .returned v∧Sn w' 1 v n xs∧(∀ b,v.ownBlock=some b→w.heap.size≤b)∧Below w.heap.size w w':=by
 obtain⟨A,cap,rfl,hcap,hl,hx⟩:=id hs;have HS:=jz hs;have HX:=jz hx;clear hx;cases A with
 | none=>
  have heq:∀ w:World,(binOp .eql 78 (.slice none n cap) (.slice none 0 0)).run Tryz.prog w = .ok (.bool true) w:=fun _=>rfl
  go_enter Tryz.func140,Tryz.ntmps140
  go_wp2_with fail
  go_ret;have hn0:n=0:=by
   rcases Nat.eq_zero_or_pos n with h|h
   ·exact h
   ·obtain⟨b,off,e,_⟩:=HX.out h;cases e
  subst hn0;exact⟨_,rfl,⟨none,0,rfl,Nat.le_refl _,hl,fun h=>absurd h (by omega)⟩,(fun b e=>by cases e),Below.refl _ _⟩
 | some a=>
  have heq:∀ w:World,(binOp .eql 78 (.slice (some a) n cap) (.slice none 0 0)).run Tryz.prog w = .ok (.bool false) w:=fun _=>rfl
  have hown:(w.alloc (.cells #[] 5)).ownsRow w.heap.size 5 1 (.slice (some ⟨w.heap.size,0,none⟩) 0 0) 0 []:=cI w #[] 5 1 0 w.heap.size w.heap.size (Nat.le_refl _) rfl (by unfold maxLen;omega) rfl;go_enter Tryz.func140,Tryz.ntmps140
  clear hs;go_wp2_with (at_builtin;refine app pS (.tmp 5) (.tmp 6) rfl rfl rfl hown rfl (HS.alloc _) h1 (by unfold maxLen;omega) (by omega) (by simp) ?_;intro v' w3 hown3 hgrow _)
  go_ret;have hb:Below w.heap.size w w3:=((Below.refl _ w).alloc (Nat.le_refl _) _).grown hgrow (by simp) (fun g hg=>by have:=(hown.lt g hg).1;omega);have hlt:=hown3.lt;have:=Sn.own hown3;rw[Nat.zero_add,List.nil_append] at this;exact⟨_,rfl,this,fun b e=>(hlt b e).1,hb⟩
theorem DZ(va:Value)(xs:List Int)(w:World)(hs:Sn w 1 va xs.length (u8s xs))(hn:xs.length≤1000000):
  Calls Tryz.prog 120 #[va] w fun e w'=>∃ r v,e = .returned (.pointer (some ⟨r,0,none⟩))∧RD w' r v xs false∧(∀ b,v.ownBlock=some b→w.heap.size≤b)∧w.heap.size≤r∧Below w.heap.size w w':=by
 have HS:=jz hs;clear hs;go_enter Tryz.func120,Tryz.ntmps120
 go_wp2_with fail
 refine(vR va xs.length (u8s xs) w HS.out (bS xs) hn).mono ?_;rintro e w1 ⟨v,rfl,hs1,hfr,hb1⟩;obtain⟨A,cap,rfl,hcap,hl,_⟩:=id hs1;have HS1:=jz hs1;have hsz:=hb1.size;have HFR:=jz hfr;clear hs1 hfr;go_wp2_with fail
 go_ret;exact⟨_,_,rfl,⟨Blk.new _ _ _,HS1.alloc _⟩,HFR.out,hsz,hb1.alloc hsz _⟩
theorem FK(r:Nat)(v:Value)(xs:List Int)(bad:Bool)(n:Nat)(w:World)(h:RD w r v xs bad)(hl:xs.length≤1000000):
    Calls Tryz.prog 158 #[.pointer (some ⟨r,0,none⟩),.int .u64 n] w fun e w'=>Off r w w' ∧
      ((bad = false ∧ n ≤ xs.length ∧ ∃ x v', e = .returned (.tuple #[x, .bool true]) ∧ Sn w' 1 x n (u8s (xs.take n)) ∧ RD w' r v' (xs.drop n) false ∧ ∀ b, v'.ownBlock = some b → v.ownBlock = some b) ∨
       ((bad=true∨xs.length<n)∧e = .returned (.tuple #[.slice none 0 0,.bool false])∧RD w' r (.slice none 0 0) [] true)):=by
  obtain⟨hB,hs⟩:=h;obtain⟨A,cap,rfl,hcap,hln,_⟩:=id hs;have HS:=jz hs;have HB:=jz hB;have h0:=hB.cell 0;have h1:=hB.cell 1;have f0:=hB.frozen 0;simp only[List.getElem?_toArray,List.getElem?_cons_zero,List.getElem?_cons_succ] at h0 h1;have hcase:bad=true∨bad=false∧decide (xs.length<n)=true∨bad=false∧decide (xs.length<n)=false:=by
    cases bad <;> cases decide (xs.length<n) <;> simp
  clear hB hs;rcases hcase with rfl|⟨rfl,t1⟩|⟨rfl,t1⟩
  · go_enter Tryz.func158,Tryz.ntmps158
    go_wp2_with fail
    refine(p8 r _ true w HB.out).mono ?_;rintro e w1 ⟨rfl,hR,ho⟩;go_wp2_with fail
    go_ret2
    exact⟨ho,.inr ⟨.inl trivial,rfl,hR⟩⟩
  · go_enter Tryz.func158,Tryz.ntmps158
    go_wp2_with fail
    refine(p8 r _ false w HB.out).mono ?_;rintro e w1 ⟨rfl,hR,ho⟩;go_wp2_with fail
    go_ret2
    exact⟨ho,.inr ⟨.inr (by have:=of_decide_eq_true t1;omega),rfl,hR⟩⟩
  · have hn:n≤xs.length:=by have:=of_decide_eq_false t1;omega
    have hi1:(n:Int)≤cap:=by omega
    have hi2:(n:Int)≤xs.length:=by omega
    have hi0:(0:Int)≤n:=by omega
    have hue:=Tryz.underlying78;go_enter Tryz.func158,Tryz.ntmps158
    have HR2:Hid (Sn w 1 (sliced A 0 n n 1) n (u8s (xs.take n))):=jz (by
      have:=HS.sliced 0 n n (by omega) hn (Nat.le_refl _)
      rw[kP]
      simpa using this)
    have HR3:Hid (Sn w 1 (sliced A n xs.length cap 1) (xs.drop n).length (u8s (xs.drop n))):=jz (by
      have:=HS.sliced n xs.length cap hn (Nat.le_refl _) hcap
      rw[mY,List.length_drop]
      have e:(u8s xs).take (xs.length*1)=u8s xs:=List.take_of_length_le (by rw[aP];omega)
      rw[e] at this
      simpa using this)
    have hB3:=jz (HB.set_ 0 (sliced A n xs.length cap 1));have ho:Off r w (w.setCell ⟨r,0,none⟩ (sliced A n xs.length cap 1)):=(Off.refl r w).set 0 _;have HO:=jz ho;clear ho;by_cases hcn:cap=n
    all_goals
      go_wp2_with fail
      go_ret2
      have hx2:=HR2.offB HB.out rfl HO.out;have hx3:=HR3.offB HB.out rfl HO.out;have e2:sliced A 0 n n 1 = .slice A n n:=by
        unfold Go.sliced;cases A with
        | none=>simp
        | some a=>obtain⟨b,o,s⟩:=a;simp[Addr.add]
      have hb3:=hB3.out;rw[e2] at hx2;refine⟨?_,.inl ⟨trivial,hn,_,sliced A n xs.length cap 1,rfl,?_,?_⟩⟩
    · have e3:sliced A n xs.length cap 1 = .slice A (xs.length-n) 0:=by simp[Go.sliced,hcn]
      rw[← e3];exact HO.out
    · have e3:sliced A n xs.length cap 1 = .slice A (xs.length-n) 0:=by simp[Go.sliced,hcn]
      rw[e3] at hx2;exact hx2
    · have e3:sliced A n xs.length cap 1 = .slice A (xs.length-n) 0:=by simp[Go.sliced,hcn]
      rw[← e3];exact⟨⟨hb3,hx3⟩,rE⟩
    · have e3:sliced A n xs.length cap 1 = .slice (A.map (·.add n)) (xs.length-n) (cap-n):=by simp[Go.sliced,hcn]
      rw[← e3];exact HO.out
    · have e3:sliced A n xs.length cap 1 = .slice (A.map (·.add n)) (xs.length-n) (cap-n):=by simp[Go.sliced,hcn]
      rw[e3] at hx2;exact hx2
    · have e3:sliced A n xs.length cap 1 = .slice (A.map (·.add n)) (xs.length-n) (cap-n):=by simp[Go.sliced,hcn]
      rw[← e3];exact⟨⟨hb3,hx3⟩,rE⟩
theorem FL(r:Nat)(v:Value)(xs:List Int)(bad:Bool)(n:Nat)(w:World)(h:RD w r v xs bad)(hl:xs.length≤1000000)(hn:n≤1000000):
    Calls Tryz.prog 145 #[.pointer (some ⟨r,0,none⟩),.int .i64 n] w fun e w'=>Off r w w' ∧
      ((bad = false ∧ n ≤ xs.length ∧ ∃ x v', e = .returned x ∧ Sn w' 1 x n (u8s (xs.take n)) ∧ RD w' r v' (xs.drop n) false ∧ ∀ b, v'.ownBlock = some b → v.ownBlock = some b) ∨
       ((bad=true∨xs.length<n)∧e = .returned (.slice none 0 0)∧RD w' r (.slice none 0 0) [] true)):=by
  go_enter Tryz.func145,Tryz.ntmps145
  have HR:=jz h;have hi1:(0:Int)≤n:=by omega
  have hi8:(n:Int)≤1000000:=by omega
  clear h;go_wp2_with fail
  refine(FK r v xs bad n w HR.out hl).mono ?_;rintro e w1 ⟨ho,⟨rfl,hkl,x,v',rfl,hsx,hR,hob⟩|⟨hbad,rfl,hR⟩⟩
  · have HO:=jz ho;have HRR:=jz hR;have HSX:=jz hsx;have HK:=jz hkl;have HOB:=jz hob;clear ho hR hsx hkl hob;go_wp2_with fail
    refine(kQ x n (u8s (xs.take n)) w1 HSX.out (bS _) hn).mono ?_;rintro e w2 ⟨y,rfl,hsy,hb2⟩;go_wp2_with fail
    go_ret;exact⟨HO.trans (Off.of_below hb2),.inl ⟨HK.out,y,rfl,hsy,v',⟨HRR.out.1.keep hb2,HRR.out.2.below hb2⟩,HOB.out⟩⟩
  · have HO:=jz ho;have HRR:=jz hR;have HBD:=jz hbad;clear ho hR hbad;go_wp2_with fail
    go_ret;exact⟨HO.out,.inr ⟨HBD.out,rfl,HRR.out⟩⟩
end
section
theorem tY(d:List Int)(t:Int)(hd:d.length=32)(Z:Array Value)(hz:Z.size=33):((u8s d).zipIdx.foldl (fun(cs:Array Value) (x:Value×Nat)=>cs.setIfInBounds x.2 x.1) Z).setIfInBounds 32 (.int .i64 t)=(cY d t).toArray:=by
 have h32:(u8s d).length=32:=by simp[u8s,hd]
 have hsz:((u8s d).zipIdx.foldl (fun(cs:Array Value) (x:Value×Nat)=>cs.setIfInBounds x.2 x.1) Z).size=33:=by
  have key:∀(l:List (Value×Nat)) (cs:Array Value),(l.foldl (fun(cs:Array Value) (x:Value×Nat)=>cs.setIfInBounds x.2 x.1) cs).size=cs.size:=by
   intro l;induction l with
   | nil=>intro cs;rfl
   | cons x l ih=>intro cs;rw[List.foldl_cons,ih,Array.size_setIfInBounds]
  rw[key];exact hz
 apply Array.ext_getElem?;intro i;rw[Array.getElem?_setIfInBounds,i8,hsz,hz,h32,show(cY d t).toArray[i]? = (u8s d++[.int .i64 t])[i]? by simp[cY]];by_cases h1:32=i
 ·subst h1;rw[if_pos rfl,if_pos (by omega),List.getElem?_append_right (by omega),h32];rfl
 ·rw[if_neg h1];by_cases h2:i<32
  ·rw[if_pos (by omega),List.getElem?_append_left (by omega),Nat.sub_zero]
  ·rw[if_neg (by omega),List.getElem?_append_right (by omega),h32];rw[Array.getElem?_eq_none (by rw[hz];omega),List.getElem?_eq_none (by simp;omega)]
theorem D2(d:List Int)(t:Int)(hd:DigOk d)(Z:Array Value)(hz:Z.size=33):(cY d t).zipIdx.foldl (fun(cs:Array Value) (x:Value×Nat)=>cs.setIfInBounds x.2 x.1) Z=(cY d t).toArray:=by
 have hl:=iP hd t;apply Array.ext_getElem?;intro i;rw[i8,hz,hl,show(cY d t).toArray[i]? = (cY d t)[i]? by simp];by_cases h:i<33
 ·rw[if_pos (by omega),Nat.sub_zero]
 ·rw[if_neg (by omega),Array.getElem?_eq_none (by omega),List.getElem?_eq_none (by omega)]
end
section
open Go.RowKit
attribute [local irreducible] wpQuiet wpAnyH
def kJ(l:List Int):Bool:=l.all fun c=>decide (c=0)
def prs(s:List Int):Option (Nat×List Int):=
 if 54<beN (s.take 2) then none
 else if !kJ ((s.drop (2+beN (s.take 2))).take (54-beN (s.take 2))) then none
 else if beN ((s.drop 56).take 4)≠bQ (s.take 56++s.drop 60) then none
 else some (beN ((s.drop 60).take 4),(s.drop 2).take (beN (s.take 2)))
theorem RD.alloc{w:World}{r:Nat}{v:Value}{xs:List Int}{bad:Bool}(h:RD w r v xs bad)(o:Obj):RD (w.alloc o) r v xs bad:=⟨h.1.alloc o,h.2.alloc o⟩
theorem RD.keep{w w':World}{r:Nat}{v:Value}{xs:List Int}{bad:Bool}(h:RD w r v xs bad)(hb:Below w.heap.size w w'):RD w' r v xs bad:=⟨Blk.keep h.1 hb,h.2.below hb⟩
theorem FM(w:World){g:Nat}(s:List Int)(hl:s.length=64)(hB:Blk w g 144 (u8s s).toArray):
  Parts (w.alloc (.cells #[.slice (some ⟨g,0,none⟩) 56 64,.slice (some ⟨g,60,none⟩) 4 4] 78)) (.slice (some ⟨w.heap.size,0,none⟩) 2 2) [(.slice (some ⟨g,0,none⟩) 56 64,s.take 56),(.slice (some ⟨g,60,none⟩) 4 4,s.drop 60)]:=
 ⟨Sn.new w #[.slice (some ⟨g,0,none⟩) 56 64,.slice (some ⟨g,60,none⟩) 4 4] 78 1 2 rfl,fun q hq=>by
  simp only[List.mem_cons,List.not_mem_nil,or_false] at hq
  rcases hq with rfl|rfl
  ·have:=(Sn.of_blk hB 0 56 64 (by omega) (by omega)).alloc (.cells #[.slice (some ⟨g,0,none⟩) 56 64,.slice (some ⟨g,60,none⟩) 4 4] 78)
   rw[List.drop_zero] at this
   simp only[List.length_take,hl]
   exact this
  ·have:=(Sn.of_blk hB 60 4 4 (by omega) (by omega)).alloc (.cells #[.slice (some ⟨g,0,none⟩) 56 64,.slice (some ⟨g,60,none⟩) 4 4] 78)
   rw[List.take_of_length_le (by rw[List.length_drop];omega)] at this
   simp only[List.length_drop,hl]
   exact this⟩
theorem D3{w w':World}{g b r:Nat}{s:List Int}{v:Value}{bad:Bool}{A:Option Addr}{k cap:Nat}(h:Parts w (.slice (some ⟨b,0,none⟩) 2 2) [(.slice (some ⟨g,0,none⟩) 56 64,s.take 56),(.slice (some ⟨g,60,none⟩) 4 4,s.drop 60)])(_:Blk w g 144 (u8s s).toArray)(hR:Blk w r 227 #[v,.bool bad])(hv:v = .slice A k cap)(ho:Off r w w')(_:g≠r)(hb:b≠r):
  Parts w' (.slice (some ⟨b,0,none⟩) 2 2) [(.slice (some ⟨g,0,none⟩) 56 64,s.take 56),(.slice (some ⟨g,60,none⟩) 4 4,s.drop 60)]:=
 ⟨h.row.offAt ho hb,fun q hq=>(h.part q hq).offB hR hv ho⟩
theorem o8(s:List Int)(w:World)(hl:s.length=64)(hb:Bys s):
    Calls Tryz.prog 143 #[.agg (u8s s).toArray] w fun e w'=>Below w.heap.size w w' ∧
      ((prs s = none ∧ e = .returned (.tuple #[.int .u32 0, .slice none 0 0, .bool false])) ∨
       (∃ g p v,prs s=some (g,p)∧e = .returned (.tuple #[.int .u32 g,v,.bool true])∧Sn w' 1 v p.length (u8s p))):=by
  have hul:(u8s s).length=64:=by rw[aP,hl]
  obtain⟨w1,hw1⟩:=je (w.alloc (.cells (u8s s).toArray 144));have hB1:Blk w1 w.heap.size 144 (u8s s).toArray:=by rw[hw1];exact Blk.new _ _ _
  have hb1:Below w.heap.size w w1:=by rw[hw1];exact(by repeat (first|exact Below.refl _ _|assumption|refine bR ?_ _|refine Below.setCell ?_ (by first|exact Nat.le_refl _|assumption|omega|(simp <;> omega)) _|refine Below.alloc ?_ (by first|exact Nat.le_refl _|assumption|omega|(simp <;> omega)) _))
  have hsn:Sn w1 1 (.slice (some ⟨w.heap.size,0,none⟩) 64 64) s.length (u8s s):=by
    have:=Sn.of_blk hB1 0 64 64 (by omega) (by omega);rw[List.drop_zero,List.take_of_length_le (by omega)] at this;rw[hl];exact this
  have HSN:=jz hsn;have HB1:=jz hB1;have HBY:=jz hb;have HHL:=jz hl;clear hsn hB1 hb hl;go_enter Tryz.func143,Tryz.ntmps143
  go_wp2_with fail
  refine wp_scope_jumps 0 (fun a w'=>Below w.heap.size w w'∧prs s=none∧∃ u0 u1 u2 u3 u4 u5 u6 u7 u8 u9 u10 u11 u12 u13 u14 u15 u16 u17 u18 u19 u20 u21 u22 u23 u24 u25 u26 u27 u28 u29 u30 u31 u32 u33 u34 u35 u36 u37 u38 u39 u40 u41 u42 u43:Value,a={ tmps:=#[u0,u1,u2,u3,u4,u5,u6,u7,u8,u9,u10,u11,u12,u13,u14,u15,u16,u17,u18,u19,u20,u21,u22,u23,u24,u25,u26,u27,u28,u29,u30,u31,u32,u33,u34,u35,u36,u37,u38,u39,u40,u41,u42,u43],defers:=[] }) (fun _ _=>0) rfl ?first ?pass
  case pass=>
    rintro a wj ⟨hbj,hnj,u0,u1,u2,u3,u4,u5,u6,u7,u8,u9,u10,u11,u12,u13,u14,u15,u16,u17,u18,u19,u20,u21,u22,u23,u24,u25,u26,u27,u28,u29,u30,u31,u32,u33,u34,u35,u36,u37,u38,u39,u40,u41,u42,u43,rfl⟩;have HJ:=jz (And.intro hbj hnj);clear hbj hnj;go_wp2_with fail
    simp only[Exit.jump]
    go_ret3
    exact⟨HJ.out.1,.inl ⟨HJ.out.2,rfl⟩⟩
  go_wp2_with fail
  rw[← hw1];clear hw1;refine(xZ _ s w1 HSN.out (by rw[HHL.out];omega)).mono ?_;rintro e w2 ⟨r,v,rfl,hR,hr,hb2⟩;have hb20:=aB hb1 hb2;have HB2:=jz (HB1.keep hb2);have hsz1:=hb1.size;have hrw:w.heap.size≤r:=by omega
  clear hb2 hr HB1 HSN hb1;have HR:=jz hR;clear hR;go_wp2_with fail
  refine(fT r v s false 2 w2 HR.out HBY.out (by rw[HHL.out];omega) (by omega) (by omega)).mono ?_;rintro e w3 ⟨ho3,⟨_,_,v3,rfl,hR3⟩|⟨hbad,_,_⟩⟩
  rotate_left 1
  · exfalso
    rcases hbad with h|h
    · cases h
    · rw[HHL.out] at h;omega
  have hb30:Below w.heap.size w w3:=hb20.trans (ho3.below hrw hb20.size);have hne:w.heap.size≠r:=by have:=HB2.out;intro e;subst e;have h1:=HR.out.1;unfold Blk at h1 this;rw[this] at h1;injection h1 with h1;injection h1 with h1 h2 _;exact absurd h2 (by decide)
  have HB3:=jz (ho3.blk HB2.out hne);obtain⟨n,hn⟩:=je (beN (s.take 2));have hn16:n<65536:=by
    rw[hn];have:=jO (s.take 2) (fun b hb=>HBY.out b (List.mem_of_mem_take hb));rw[List.length_take,HHL.out] at this;exact this
  rw[← hn];have HN:=jz hn;have HR3:=jz hR3;clear hn hR3 ho3 hb20 HB2 HR;rcases jb (decide ((54:Int)<n)) with t1|t1
  · go_wp2_with fail
    go_step3
    simp only[Exit.then,Exit.inBlock];refine⟨rfl,hb30,?_,?_⟩
    · unfold prs;rw[← HN.out,if_pos (by have:=of_decide_eq_true t1;omega)]
    · iterate 44 apply Exists.intro
      rfl
  · have hn54:n≤54:=by have:=of_decide_eq_false t1;omega
    have hm:(54:Int)-n=((54-n:Nat):Int):=by omega
    have hd2:(s.drop 2).length=62:=by rw[List.length_drop,HHL.out]
    have HD2:=jz hd2;clear hd2;go_wp2_with fail
    refine(B0 r v3 (s.drop 2) false n w3 HR3.out (by rw[HD2.out];omega) (by omega)).mono ?_;rintro e w4 ⟨ho4,⟨_,_,x4,v4,rfl,hs4,hR4⟩|⟨hbad,_,_⟩⟩
    rotate_left 1
    · exfalso
      rcases hbad with h|h
      · cases h
      · rw[HD2.out] at h;omega
    have hb40:Below w.heap.size w w4:=hb30.trans (ho4.below hrw hb30.size);have HB4:=jz (ho4.blk HB3.out hne);have HS4:=jz hs4;have HR4:=jz hR4;have HD4:Hid (((s.drop 2).drop n).length=62-n):=jz (by rw[List.length_drop,HD2.out]);clear hs4 hR4 ho4 hb30 HR3 HB3;go_wp2_with fail
    refine(B0 r v4 ((s.drop 2).drop n) false (54-n) w4 HR4.out (by rw[HD4.out];omega) (by omega)).mono ?_;rintro e w5 ⟨ho5,⟨_,_,x5,v5,rfl,hs5,hR5⟩|⟨hbad,_,_⟩⟩
    rotate_left 1
    · exfalso
      rcases hbad with h|h
      · cases h
      · rw[HD4.out] at h;omega
    have hb50:Below w.heap.size w w5:=hb40.trans (ho5.below hrw hb40.size);have HB5:=jz (ho5.blk HB4.out hne);obtain⟨A5,c5,e5,hc5,_,_⟩:=id hs5;subst e5;have HS5:=jz hs5;obtain⟨A4,c4,e4,_,_,_⟩:=id HR4.out.2;have HS45:Hid (Sn w5 1 x4 n (u8s ((s.drop 2).take n))):=jz (HS4.offB HR4.out.1 e4 ho5);have HR5:=jz hR5;have hz:((s.drop 2).drop n).take (54-n)=(s.drop (2+n)).take (54-n):=by rw[List.drop_drop]
    rw[hz] at HS5 hs5;have hzl:((s.drop (2+n)).take (54-n)).length=54-n:=by rw[List.length_take,List.length_drop,HHL.out];omega
    obtain⟨z,hzz⟩:=je ((s.drop (2+n)).take (54-n));have hzb:Bys z:=by rw[hzz];exact fun b hb=>HBY.out b (List.mem_of_mem_drop (List.mem_of_mem_take hb))
    rw[← hzz] at HS5 hzl;have HZ:=jz hzz;have HZB:=jz hzb;have HZL:=jz hzl;clear hs5 hz hzz hzb hzl hR5 ho5 e4 hb40 HB4 HS4 HR4 HD4;go_wp2_with fail
    go_loopw [25] (fun i wr=>∃ k:Nat,k≤54-n∧i = .int .i64 k∧Hid (∀ c∈z.take k,c=0)∧wr=w5) (fun i _=>(54-n)-(intOf i).toNat)
    case atStart=>exact⟨0,Nat.zero_le _,rfl,jz (by simp),rfl⟩
    case round=>
      obtain⟨k,hk,rfl,hz0,hw⟩:=hrel;rw[hw];clear hw;by_cases hlt:k<54-n
      · obtain⟨A',cap',hA,_,_,hcell⟩:=HS5.out;injection hA with hA _ hcp
        subst hA hcp;obtain⟨b,off,rfl,hr⟩:=hcell (by omega);have hkz:k<z.length:=by rw[HZL.out];exact hlt
        have hc:=hr k _ (jI z k hkz);have hsn:Hid (z[k]=0→∀ c∈z.take (k+1),c=0):=jz (fun h0 c hc=>by
          rw[List.take_succ_eq_append_getElem hkz,List.mem_append] at hc
          rcases hc with hc|hc
          · exact hz0.out c hc
          · obtain rfl:c=z[k]:=by simpa using hc
            exact h0)
        have hns:Hid (z[k]≠0→kJ z=false):=jz (fun h0=>by
          unfold kJ
          rw[List.all_eq_false]
          exact⟨z[k],List.getElem_mem hkz,by simpa using h0⟩)
        obtain⟨c,hcc⟩:=je (z[k]);rw[← hcc] at hc hsn hns;have hi0:(0:Int)≤k:=by omega
        have hi1:(k:Int)<((54-n:Nat):Int):=by omega
        clear hr hcell hcc hz0;rcases jb (c != 0) with t2|t2
        · go_wp2_with fail
          go_step3
          simp only[Exit.then,Exit.inBlock];refine⟨rfl,hb50,?_,?_⟩
          · unfold prs;rw[← HN.out,if_neg (by omega),if_pos ?_];rw[← HZ.out,hns.out (by simpa using t2)];rfl
          · iterate 44 apply Exists.intro
            rfl
        · go_wp2_with fail
          exact⟨⟨k+1,by omega,by go_num,jz (hsn.out (by simpa using t2)),by trivial⟩,by simp[intOf];omega⟩
      · obtain rfl:k=54-n:=by omega
        rw[List.take_of_length_le (by rw[HZL.out];exact Nat.le_refl _)] at hz0;have HZT:Hid (kJ ((s.drop (2+n)).take (54-n))=true):=jz (by
          rw[← HZ.out]
          unfold kJ
          rw[List.all_eq_true]
          exact fun c hc=>by simpa using hz0.out c hc)
        have hd56:((s.drop 2).drop n).drop (54-n)=s.drop 56:=by rw[List.drop_drop,List.drop_drop];congr 1;omega
        have hR5:=HR5.out;rw[hd56] at hR5;have HR5D:Hid (RD w5.drew r v5 (s.drop 56) false):=jz hR5;obtain⟨A7,c7,e5v,_,_,_⟩:=id hR5.2;have HB5D:Hid (Blk w5.drew w.heap.size 144 (u8s s).toArray):=jz HB5.out;have HS45D:Hid (Sn w5.drew 1 x4 n (u8s ((s.drop 2).take n))):=jz HS45.out;have HBW5D:Hid (Below w.heap.size w w5.drew):=jz hb50.drew;have HRLT:Hid (r<w5.heap.size):=jz hR5.1.lt;have HD56:Hid ((s.drop 56).length=8):=jz (by rw[List.length_drop,HHL.out]);have HD60:Hid ((s.drop 60).length=4):=jz (by rw[List.length_drop,HHL.out]);have HD5660:Hid ((s.drop 56).drop 4=s.drop 60):=jz (by rw[List.drop_drop]);have HBD:Hid (Bys (s.drop 56)):=jz (fun b hb=>HBY.out b (List.mem_of_mem_drop hb));have HBD2:Hid (Bys (s.drop 60)):=jz (fun b hb=>HBY.out b (List.mem_of_mem_drop hb));have HG60:Hid (beN ((s.drop 60).take 4)<4294967296):=jz (by
          have:=jO ((s.drop 60).take 4) (fun b hb=>HBD2.out b (List.mem_of_mem_take hb))
          rw[List.length_take,HD60.out] at this
          exact this)
        have HPB:Hid (∀ q∈[(Value.slice (some ⟨w.heap.size,0,none⟩) 56 64,s.take 56),(Value.slice (some ⟨w.heap.size,60,none⟩) 4 4,s.drop 60)],Bys q.2):=jz (fun q hq=>by
          simp only[List.mem_cons,List.not_mem_nil,or_false] at hq
          rcases hq with rfl|rfl
          · exact fun b hb=>HBY.out b (List.mem_of_mem_take hb)
          · exact HBD2.out)
        have HPL:Hid (∀ q∈[(Value.slice (some ⟨w.heap.size,0,none⟩) 56 64,s.take 56),(Value.slice (some ⟨w.heap.size,60,none⟩) 4 4,s.drop 60)],q.2.length<64):=jz (fun q hq=>by
          simp only[List.mem_cons,List.not_mem_nil,or_false] at hq
          rcases hq with rfl|rfl
          · simp only[List.length_take,HHL.out];omega
          · simp only[HD60.out];omega)
        have HCA:Hid (cat [(Value.slice (some ⟨w.heap.size,0,none⟩) 56 64,s.take 56),(Value.slice (some ⟨w.heap.size,60,none⟩) 4 4,s.drop 60)]=s.take 56++s.drop 60):=jz (by simp[cat]);have HX2:=jz (lB (s.take 56++s.drop 60));have hcw:IntKind.u64.wrap (bQ (s.take 56++s.drop 60):Int)=(bQ (s.take 56++s.drop 60):Int):=IntWalk.u64_in _ (by have:=HX2.out;omega);clear hR5 hd56 hz0 hb50;go_wp2_with fail
        refine aQ 8 (fun _=>True) (by kernel_rfl) (by kernel_rfl) (trivial) (fun hH=>?_);refine jM 0 (.tmp 6) (some 32) (.pointer (some ⟨r,0,none⟩)) hH ?_;simp only[jq];refine jT 2 (.slice 144 (.tmp 1) none (some (.const (.int .i64 56))) none) (some 34) (.slice (some ⟨w.heap.size,0,none⟩) 56 64) hH ?_;simp only[jq];refine jT 3 (.slice 144 (.tmp 1) (some (.const (.int .i64 60))) none none) (some 35) (.slice (some ⟨w.heap.size,60,none⟩) 4 4) hH ?_;simp only[jq];refine jW [1,4] ?_;refine jC 1 (.call { callee:=.value (.func 121),args:=#[.tmp 32,.const (.int .i64 4)],argTypes:=#[195,3] }) (some 33) 121 (#[.pointer (some ⟨r,0,none⟩),.int .i64 4]) ?_ ?_
        rotate_left 1
        · refine jS 4 (.buildSlice 214 2 #[(0,.tmp 34),(1,.tmp 35)]) (some 36) (.slice (some ⟨w5.drew.heap.size,0,none⟩) 2 2) (w5.drew.alloc (.cells #[.slice (some ⟨w.heap.size,0,none⟩) 56 64,.slice (some ⟨w.heap.size,60,none⟩) 4 4] 78)) trivial ?_ jN;simp only[jq];refine jW [1] ?_;refine jC 1 (.call { callee:=.value (.func 121),args:=#[.tmp 32,.const (.int .i64 4)],argTypes:=#[195,3] }) (some 33) 121 (#[.pointer (some ⟨r,0,none⟩),.int .i64 4]) ?_ jN;refine(fT r v5 (s.drop 56) false 4 (w5.drew.alloc (.cells #[.slice (some ⟨w.heap.size,0,none⟩) 56 64,.slice (some ⟨w.heap.size,60,none⟩) 4 4] 78)) (HR5D.alloc _) HBD.out (by rw[HD56.out];omega) (by omega) (by omega)).mono ?_;rintro e w6 ⟨ho6,⟨_,_,v6,rfl,hR6⟩|⟨hbad,_,_⟩⟩
          rotate_left 1
          · exact absurd hbad (by rw[HD56.out];simp)
          refine⟨_,rfl,trivial,fun hH=>?_⟩;simp only[jq];have hPA:=FM w5.drew s HHL.out HB5D.out;have HPA:=jz (D3 hPA (HB5D.alloc (.cells #[.slice (some ⟨w.heap.size,0,none⟩) 56 64,.slice (some ⟨w.heap.size,60,none⟩) 4 4] 78)) (HR5D.alloc (.cells #[.slice (some ⟨w.heap.size,0,none⟩) 56 64,.slice (some ⟨w.heap.size,60,none⟩) 4 4] 78)).1 e5v ho6 hne (by have:=HRLT.out;show w5.heap.size≠r;omega));have hS6:=(HS45D.alloc (.cells #[.slice (some ⟨w.heap.size,0,none⟩) 56 64,.slice (some ⟨w.heap.size,60,none⟩) 4 4] 78)).offB (HR5D.alloc (.cells #[.slice (some ⟨w.heap.size,0,none⟩) 56 64,.slice (some ⟨w.heap.size,60,none⟩) 4 4] 78)).1 e5v ho6;have hbA:=HBW5D.alloc HBW5D.size (.cells #[.slice (some ⟨w.heap.size,0,none⟩) 56 64,.slice (some ⟨w.heap.size,60,none⟩) 4 4] 78);have hb6:Below w.heap.size w w6:=hbA.trans (ho6.below hrw hbA.size);refine jW [5] ?_;refine jC 5 (.call { callee:=.value (.func 133),args:=#[.tmp 36],argTypes:=#[214] }) (some 37) 133 (#[.slice (some ⟨w5.drew.heap.size,0,none⟩) 2 2]) ?_ jN;refine(vI _ [(.slice (some ⟨w.heap.size,0,none⟩) 56 64,s.take 56),(.slice (some ⟨w.heap.size,60,none⟩) 4 4,s.drop 60)] _ HPA.out (by simp) HPB.out HPL.out).mono ?_;rintro e w7 ⟨rfl,hb7⟩;rw[HCA.out];refine⟨_,rfl,trivial,fun hH=>?_⟩;simp only[jq];refine jT 6 (.convert 59 80 (.tmp 37)) (some 38) (.int .u64 (bQ (s.take 56++s.drop 60))) hH ?_;simp only[jq];refine jT 7 (.binOp .neq 80 (.tmp 33) (.tmp 38) 80) (some 39) (.bool (((beN ((s.drop 56).take 4):Nat):Int) != ((bQ (s.take 56++s.drop 60):Nat):Int))) hH ?_;simp only[jq];refine wpAnyH_done (by kernel_rfl) ?_ _;have HRF:=jz (hR6.keep hb7);have HSF:=jz (hS6.below hb7);have HBF:=jz (aB hb6 hb7);clear hPA hS6 hb6 hR6 ho6 hb7 hbA;by_cases e3:beN ((s.drop 56).take 4)=bQ (s.take 56++s.drop 60)
          rotate_left 1
          · have t3:(((beN ((s.drop 56).take 4):Nat):Int) != ((bQ (s.take 56++s.drop 60):Nat):Int))=true:=bne_iff_ne.2 (by omega);rw[t3];go_wp2_with fail
            go_step3
            simp only[Exit.then,Exit.inBlock];refine⟨rfl,HBF.out,?_,?_⟩
            · unfold prs;rw[← HN.out,if_neg (by omega),if_neg (by rw[HZT.out];simp),if_pos e3]
            · iterate 44 apply Exists.intro
              rfl
          · have t3:(((beN ((s.drop 56).take 4):Nat):Int) != ((bQ (s.take 56++s.drop 60):Nat):Int))=false:=by rw[e3];exact bne_self_eq_false _
            rw[t3];have hgw:IntKind.u32.wrap (beN ((s.drop 60).take 4):Int)=(beN ((s.drop 60).take 4):Int):=IntWalk.u32_in _ (by have:=HG60.out;omega);go_wp2_with fail
            refine(fT r v6 (s.drop 60) false 4 w7 (by have:=HRF.out;rw[HD5660.out] at this;exact this) HBD2.out (by rw[HD60.out];omega) (by omega) (by omega)).mono ?_;rintro e w8 ⟨ho8,⟨_,_,v8,rfl,hR8⟩|⟨hbad,_,_⟩⟩
            rotate_left 1
            · exact absurd hbad (by rw[HD60.out];simp)
            obtain⟨A6,c6,e6,_,_,_⟩:=id HRF.out.2;have HS8:=jz (HSF.offB HRF.out.1 e6 ho8);have HB8:Hid (Below w.heap.size w w8):=jz (HBF.trans (ho8.below hrw HBF.size));clear ho8 hR8 e6;go_wp2_with fail
            simp only[Exit.jump]
            go_ret3
            refine⟨HB8.out,.inr ⟨_,(s.drop 2).take n,x4,?_,rfl,?_⟩⟩
            · unfold prs;rw[← HN.out,if_neg (by omega),if_neg (by rw[HZT.out];simp),if_neg (fun h=>h e3)]
            · have:=HS8.out;rw[List.length_take,HD2.out,Nat.min_eq_left (by omega)];exact this
        · refine(fT r v5 (s.drop 56) false 4 w5.drew HR5D.out HBD.out (by rw[HD56.out];omega) (by omega) (by omega)).mono ?_;rintro e w6 ⟨ho6,⟨_,_,v6,rfl,hR6⟩|⟨hbad,_,_⟩⟩
          rotate_left 1
          · exact absurd hbad (by rw[HD56.out];simp)
          refine⟨_,rfl,trivial,fun hH=>?_⟩;simp only[jq];have hB6:=ho6.blk HB5D.out hne;have hS6:=HS45D.offB HR5D.out.1 e5v ho6;have hb6:Below w.heap.size w w6:=HBW5D.trans (ho6.below hrw HBW5D.size);refine jW [4] ?_;refine jS 4 (.buildSlice 214 2 #[(0,.tmp 34),(1,.tmp 35)]) (some 36) (.slice (some ⟨w6.heap.size,0,none⟩) 2 2) (w6.alloc (.cells #[.slice (some ⟨w.heap.size,0,none⟩) 56 64,.slice (some ⟨w.heap.size,60,none⟩) 4 4] 78)) trivial ?_ jN;simp only[jq];have HPA:=jz (FM w6 s HHL.out hB6);refine jW [5] ?_;refine jC 5 (.call { callee:=.value (.func 133),args:=#[.tmp 36],argTypes:=#[214] }) (some 37) 133 (#[.slice (some ⟨w6.heap.size,0,none⟩) 2 2]) ?_ jN;refine(vI _ [(.slice (some ⟨w.heap.size,0,none⟩) 56 64,s.take 56),(.slice (some ⟨w.heap.size,60,none⟩) 4 4,s.drop 60)] _ HPA.out (by simp) HPB.out HPL.out).mono ?_;rintro e w7 ⟨rfl,hb7⟩;rw[HCA.out];refine⟨_,rfl,trivial,fun hH=>?_⟩;simp only[jq];refine jT 6 (.convert 59 80 (.tmp 37)) (some 38) (.int .u64 (bQ (s.take 56++s.drop 60))) hH ?_;simp only[jq];refine jT 7 (.binOp .neq 80 (.tmp 33) (.tmp 38) 80) (some 39) (.bool (((beN ((s.drop 56).take 4):Nat):Int) != ((bQ (s.take 56++s.drop 60):Nat):Int))) hH ?_;simp only[jq];refine wpAnyH_done (by kernel_rfl) ?_ _;have HRF:=jz ((hR6.alloc (.cells #[.slice (some ⟨w.heap.size,0,none⟩) 56 64,.slice (some ⟨w.heap.size,60,none⟩) 4 4] 78)).keep hb7);have HSF:=jz ((hS6.alloc (.cells #[.slice (some ⟨w.heap.size,0,none⟩) 56 64,.slice (some ⟨w.heap.size,60,none⟩) 4 4] 78)).below hb7);have HBF:=jz (aB (hb6.alloc hb6.size (.cells #[.slice (some ⟨w.heap.size,0,none⟩) 56 64,.slice (some ⟨w.heap.size,60,none⟩) 4 4] 78)) hb7);clear hB6 hS6 hb6 hR6 ho6 hb7;by_cases e3:beN ((s.drop 56).take 4)=bQ (s.take 56++s.drop 60)
          rotate_left 1
          · have t3:(((beN ((s.drop 56).take 4):Nat):Int) != ((bQ (s.take 56++s.drop 60):Nat):Int))=true:=bne_iff_ne.2 (by omega);rw[t3];go_wp2_with fail
            go_step3
            simp only[Exit.then,Exit.inBlock];refine⟨rfl,HBF.out,?_,?_⟩
            · unfold prs;rw[← HN.out,if_neg (by omega),if_neg (by rw[HZT.out];simp),if_pos e3]
            · iterate 44 apply Exists.intro
              rfl
          · have t3:(((beN ((s.drop 56).take 4):Nat):Int) != ((bQ (s.take 56++s.drop 60):Nat):Int))=false:=by rw[e3];exact bne_self_eq_false _
            rw[t3];have hgw:IntKind.u32.wrap (beN ((s.drop 60).take 4):Int)=(beN ((s.drop 60).take 4):Int):=IntWalk.u32_in _ (by have:=HG60.out;omega);go_wp2_with fail
            refine(fT r v6 (s.drop 60) false 4 w7 (by have:=HRF.out;rw[HD5660.out] at this;exact this) HBD2.out (by rw[HD60.out];omega) (by omega) (by omega)).mono ?_;rintro e w8 ⟨ho8,⟨_,_,v8,rfl,hR8⟩|⟨hbad,_,_⟩⟩
            rotate_left 1
            · exact absurd hbad (by rw[HD60.out];simp)
            obtain⟨A6,c6,e6,_,_,_⟩:=id HRF.out.2;have HS8:=jz (HSF.offB HRF.out.1 e6 ho8);have HB8:Hid (Below w.heap.size w w8):=jz (HBF.trans (ho8.below hrw HBF.size));clear ho8 hR8 e6;go_wp2_with fail
            simp only[Exit.jump]
            go_ret3
            refine⟨HB8.out,.inr ⟨_,(s.drop 2).take n,x4,?_,rfl,?_⟩⟩
            · unfold prs;rw[← HN.out,if_neg (by omega),if_neg (by rw[HZT.out];simp),if_neg (fun h=>h e3)]
            · have:=HS8.out;rw[List.length_take,HD2.out,Nat.min_eq_left (by omega)];exact this
def toll:List Int:=[84,79,76,76]
theorem vS(g:Nat)(w:World)(hg:g<4294967296):
  Calls Tryz.prog 82 #[.int .u32 g] w fun e w'=>e = .returned (.agg (u8s (rec g toll)).toArray)∧Below w.heap.size w w':=by
 have HG:=jz hg;have hrl:(u8s (rec g toll)).length=64:=by rw[aP,d9 g toll (by decide)]
 have h1:=cS (rec g toll);have hz:z64.size=(u8s (rec g toll)).toArray.size:=by rw[cN];simp[hrl]
 have hb1:Below w.heap.size w (w.alloc (.cells z64 144)):=(by repeat (first|exact Below.refl _ _|assumption|refine bR ?_ _|refine Below.setCell ?_ (by first|exact Nat.le_refl _|assumption|omega|(simp <;> omega)) _|refine Below.alloc ?_ (by first|exact Nat.le_refl _|assumption|omega|(simp <;> omega)) _));have hB1:=Blk.new w 144 z64;have hsz1:(w.alloc (.cells z64 144)).heap.size=w.heap.size+1:=by simp
 clear hg;have hcv:=fun W:World=>Lib.run_convert_bytes_const (P:=Tryz.prog) W 78 5 #[.int .u8 84,.int .u8 79,.int .u8 76,.int .u8 76] 4 4 Tryz.underlying78 Tryz.underlying5
 have hcv1:=hcv (w.alloc (.cells z64 144));simp only[hsz1] at hcv1;clear hcv;go_enter Tryz.func82,Tryz.ntmps82
 go_wp2_with (refine al 144 z64 rfl rfl cK ?_)
 have hsnT:Sn ((w.alloc (.cells z64 144)).alloc (.cells #[.int .u8 84,.int .u8 79,.int .u8 76,.int .u8 76] 5 (4,5))) 1 (.slice (some ⟨w.heap.size+1,0,none⟩) 4 4) toll.length (u8s toll):=by
  refine⟨_,4,rfl,Nat.le_refl _,rfl,fun _=>⟨_,0,rfl,fun j u hj=>?_⟩⟩;have hh:=heap_alloc_new (w.alloc (.cells z64 144)) (.cells #[.int .u8 84,.int .u8 79,.int .u8 76,.int .u8 76] 5 (4,5));rw[hsz1] at hh;rw[cell_of_row _ _ _ _ _ _ hh,Nat.zero_add];simpa [toll,u8s] using hj
 have hbT:Below w.heap.size w ((w.alloc (.cells z64 144)).alloc (.cells #[.int .u8 84,.int .u8 79,.int .u8 76,.int .u8 76] 5 (4,5))):=hb1.alloc hb1.size _;have hBT:=hB1.alloc (.cells #[.int .u8 84,.int .u8 79,.int .u8 76,.int .u8 76] 5 (4,5));refine(qT g _ toll _ hsnT (fun b hb=>by simp only[toll,List.mem_cons,List.not_mem_nil,or_false] at hb;omega) (by decide) HG.out).mono ?_;rintro e w2 ⟨rfl,hb2⟩;have hb20:=aB hbT hb2;have HB2:=jz (hBT.keep hb2);clear hbT hb2 hBT hb1 hB1 hsnT hsz1 hcv1;go_wp2_with (first
  | (refine al 144 z64 rfl rfl cK ?_)
  | (refine cR 144 (.tmp 3) (.tmp 10) rfl rfl rfl rfl (by simp only[js,hrl];kernel_rfl) hz h1 ?_;intro w3 hB3 hb3 hs3;have HR3:=jz (Blk.range hB3);have HB3:=jz (HB2.keep hb3))
  | (refine ld 144 _ rfl rfl rfl HR3.out Tryz.underlying144 rfl (by rw[jt,hrl];kernel_rfl) ?_)
  | (refine bC 144 (.tmp 2) (.tmp 12) rfl rfl rfl rfl HB3.out (by simp only[jt,js,hrl];kernel_rfl) (by rw[jt];exact hz) (by rw[jt];exact h1) ?_;intro wZ hBZ hbZ _ _))
 have hbF:=(aB hb20 hb3).trans hbZ
 try rw[jt] at hBZ
 refine bodyPost_ret (results_cell_row rfl _ _ w.heap.size 144 _ (0,0) _ rfl hBZ Tryz.underlying144 rfl (by simp only[js,hrl];kernel_rfl)) rfl ⟨rfl,hbF⟩
end
end Go.Proofs.YtombncedfleljaaGreat
namespace Go.Proofs
open Go.Shelf
def Tryz.laysnb115_ren:Go.Shelf.Ren:=⟨fun|115=>144|n=>n,fun|37=>78|4=>4|9=>9|5=>5|n=>n,fun|n=>n⟩
theorem Tryz.laysnb115:Go.Proofs.Lays.nb115 Tryz.prog Tryz.laysnb115_ren:={
 mixed:=by kernel_rfl
 f115:=Tryz.func144.trans (congrArg some (by kernel_rfl))
 t4:=Tryz.underlying4
 a4:=Tryz.isAgg4
 z4:=Tryz.sizeOf4
 v4:=Tryz.zeroValue4
 t9:=Tryz.underlying9
 a9:=Tryz.isAgg9
 z9:=Tryz.sizeOf9
 v9:=Tryz.zeroValue9
 t37:=Tryz.underlying78
 a37:=Tryz.isAgg78
 z37:=Tryz.sizeOf78
 v37:=Tryz.zeroValue78
 t5:=Tryz.underlying5
 a5:=Tryz.isAgg5
 z5:=Tryz.sizeOf5
 v5:=Tryz.zeroValue5 }
theorem Tryz.bytes_Equal_all(p1 p2:Option Addr)(n c m d:Nat)(xs ys:List Int)(w:World)(hx:xs.length=n)(hy:ys.length=m)(h1:Lib.BytesIn w p1 n xs)(h2:Lib.BytesIn w p2 m ys):
  Calls Tryz.prog 144 #[.slice p1 n c,.slice p2 m d] w fun e w'=>e = .returned (.bool (Lib.bytesOf xs == Lib.bytesOf ys))∧w'=w:=Any.bytes_Equal_all Tryz.laysnb115 p1 p2 n c m d xs ys w hx hy h1 h2
end Go.Proofs
namespace Go.Proofs.YtombncedfleljaaGreat
section
open Go.RowKit
theorem o9:∀ {xs ys:List Int},Bys xs→Bys ys→Lib.bytesOf xs=Lib.bytesOf ys→xs=ys
 | [],[],_,_,_=>rfl
 | [],_ :: _,_,_,h=>by simp[Lib.bytesOf] at h
 | _ :: _,[],_,_,h=>by simp[Lib.bytesOf] at h
 | a :: xs,b :: ys,hx,hy,h=>by
  simp only[Lib.bytesOf,List.map_cons,List.cons.injEq] at h;have ha:=hx a (by simp);have hb:=hy b (by simp);have h1:=congrArg UInt8.toNat h.1;simp only[UInt8.toNat_ofNat'] at h1;rw[o9 (fun c hc=>hx c (by simp[hc])) (fun c hc=>hy c (by simp[hc])) h.2,show a=b by omega]
theorem yM(v1 v2:Value)(xs ys:List Int)(w:World)(h1:Sn w 1 v1 xs.length (u8s xs))(h2:Sn w 1 v2 ys.length (u8s ys))(hx:Bys xs)(hy:Bys ys):
  Calls Tryz.prog 144 #[v1,v2] w fun e w'=>e = .returned (.bool (decide (xs=ys)))∧w'=w:=by
 have key:∀(A:Option Addr) (cap:Nat) (zs:List Int),Sn w 1 (.slice A zs.length cap) zs.length (u8s zs)→Lib.BytesIn w A zs.length zs:=by
  intro A cap zs h;obtain⟨A',cap',hv,_,_,hx⟩:=h;injection hv with hA _ _
  subst hA;intro hp;obtain⟨b,off,rfl,hc⟩:=hx hp;refine⟨b,off,rfl,fun j hj=>hc j _ ?_⟩;rw[jI zs j hj,List.getD_eq_getElem?_getD,List.getElem?_eq_getElem hj];rfl
 obtain⟨A1,c1,rfl,_,_,_⟩:=id h1;obtain⟨A2,c2,rfl,_,_,_⟩:=id h2;refine(Tryz.bytes_Equal_all A1 A2 xs.length c1 ys.length c2 xs ys w rfl rfl (key _ _ _ h1) (key _ _ _ h2)).mono ?_;rintro e w' ⟨rfl,rfl⟩;refine⟨?_,rfl⟩;congr 2;by_cases h:xs=ys
 ·subst h;simp
 ·have:Lib.bytesOf xs≠Lib.bytesOf ys:=fun e=>h (o9 hx hy e)
  simp[h,this]
end
section
open Go.RowKit
attribute [local irreducible] wpQuiet wpAnyH
def fH(s:List Int):Option Nat:=match prs s with|some (g,p)=>if p=toll then some g else none|none=>none
theorem B8(W:World):Sn (W.alloc (.cells #[.int .u8 84,.int .u8 79,.int .u8 76,.int .u8 76] 5 (4,5))) 1 (.slice (some ⟨W.heap.size,0,none⟩) 4 4) toll.length (u8s toll):=by
 refine⟨_,4,rfl,Nat.le_refl _,rfl,fun _=>⟨_,0,rfl,fun j u hj=>?_⟩⟩;have hh:=heap_alloc_new W (.cells #[.int .u8 84,.int .u8 79,.int .u8 76,.int .u8 76] 5 (4,5));rw[cell_of_row _ _ _ _ _ _ hh,Nat.zero_add];simpa [toll,u8s] using hj
theorem jD:Bys toll:=fun b hb=>by simp only[toll,List.mem_cons,List.not_mem_nil,or_false] at hb;omega
theorem nC{s:List Int}(hb:Bys s){g:Nat}{p:List Int}(h:prs s=some (g,p)):Bys p:=by
 unfold prs at h;split at h
 ·cases h
 ·split at h
  ·cases h
  ·split at h
   ·cases h
   ·injection h with h
    injection h with _ h
    subst h;exact fun b hb'=>hb b (List.mem_of_mem_drop (List.mem_of_mem_take hb'))
theorem mK(s:List Int)(w:World)(hl:s.length=64)(hb:Bys s):
  Calls Tryz.prog 123 #[.agg (u8s s).toArray] w fun e w'=>Below w.heap.size w w' ∧
   ((fH s=none∧e = .returned (.tuple #[.int .u32 0,.bool false]))∨(∃ g,fH s=some g∧e = .returned (.tuple #[.int .u32 g,.bool true]))):=by
 have hul:(u8s s).length=64:=by rw[aP,hl]
 have hB1:=Blk.new w 144 (u8s s).toArray;have hr1:=hB1.range;rw[jt] at hr1;have HR1:=jz hr1;have hb1:Below w.heap.size w (w.alloc (.cells (u8s s).toArray 144)):=(Below.refl _ w).alloc (Nat.le_refl _) _;clear hB1 hr1;go_enter Tryz.func123,Tryz.ntmps123
 go_wp2_with (refine ld 144 _ rfl rfl rfl HR1.out Tryz.underlying144 rfl (by rw[hul];kernel_rfl) ?_)
 refine(o8 s _ hl hb).mono ?_;rintro e w2 ⟨hb2,⟨hn,rfl⟩|⟨g,p,v,hp,rfl,hs⟩⟩
 ·have hb20:=aB hb1 hb2;have HN:Hid (fH s=none):=jz (by unfold fH;rw[hn]);clear hn;go_wp2_with fail
  go_ret2
  exact⟨hb20,.inl ⟨HN.out,rfl⟩⟩
 ·have hb20:=aB hb1 hb2;have HP:=jz hp;have HS:=jz (hs.alloc (.cells #[.int .u8 84,.int .u8 79,.int .u8 76,.int .u8 76] 5 (4,5)));have HBP:=jz (nC hb hp);have HT:=jz (B8 w2);have hcv:=Lib.run_convert_bytes_const (P:=Tryz.prog) w2 78 5 #[.int .u8 84,.int .u8 79,.int .u8 76,.int .u8 76] 4 4 Tryz.underlying78 Tryz.underlying5;have HBF:Hid (Below w.heap.size w (w2.alloc (.cells #[.int .u8 84,.int .u8 79,.int .u8 76,.int .u8 76] 5 (4,5)))):=jz (hb20.alloc hb20.size _);clear hp hs hb2 hb20 hb1;go_wp2_with fail
  refine(yM _ _ p toll _ HS.out HT.out HBP.out jD).mono ?_;rintro e w3 ⟨rfl,hw3⟩;have HW:Hid (Below w.heap.size w w3):=jz (by rw[hw3];exact HBF.out);clear hw3;rcases jb (decide (p=toll)) with t1|t1
  ·rw[t1];go_wp2_with fail
   go_ret2
   exact⟨HW.out,.inr ⟨g,by unfold fH;rw[HP.out];simp only;rw[if_pos (of_decide_eq_true t1)],rfl⟩⟩
  ·rw[t1];go_wp2_with fail
   go_ret2
   exact⟨HW.out,.inl ⟨by unfold fH;rw[HP.out];simp only;rw[if_neg (of_decide_eq_false t1)],rfl⟩⟩
end
end Go.Proofs.YtombncedfleljaaGreat
