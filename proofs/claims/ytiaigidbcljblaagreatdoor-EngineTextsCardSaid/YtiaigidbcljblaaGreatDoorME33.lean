import Derived.Test.YtiaigidbcljblaaGreatDoorME31
import Derived.Test.YtiaigidbcljblaaGreatDoorME32
import Derived.Test.YtiaigidbcljblaaGreatDoorME19
import Derived.Test.YtiaigidbcljblaaGreatDoorME25
set_option linter.unusedVariables false
set_option linter.unusedSimpArgs false
set_option maxRecDepth 100000
set_option maxHeartbeats 40000000
namespace Go.Proofs.YtiaigidbcljblaaGreatDoor
section
open Go.RowKit
attribute [local irreducible] wpQuiet wpAnyH
def RunQ(w:World)(r:Ans×List RowD)(e:Ending)(w':World):Prop:=match r.1 with
 | some x=>e = .returned (.tuple #[.slice none 0 0,.pointer none,valE (some x)])∧Below w.heap.size w w'
 | none=>∃ v g,e = .returned (.tuple #[v,.pointer (some ⟨g,0,none⟩),.nilIface])∧w'.ownsRow w.heap.size 31 36 v r.2.length (r.2.flatMap rowC)∧Below w.heap.size w w'
theorem badAt_pre{l:List OpD}:∀ {k:Nat},(∀ j (h:j<l.length),j<k→rightB l[j]=true)→∀(hk:k<l.length),rightB l[k]=false→badAt l=some k:=by
 intro k h hk hb
 unfold badAt
 rw[List.findIdx?_eq_some_iff_getElem]
 refine⟨hk,by rw[hb];rfl,fun j hj=>?_⟩
 rw[h j (by omega) hj]
 simp
theorem badAt_all{l:List OpD}(h:∀ j (hj:j<l.length),rightB l[j]=true):badAt l=none:=by
 unfold badAt
 rw[List.findIdx?_eq_none_iff]
 intro x hx
 obtain⟨j,hj,rfl⟩:=List.getElem_of_mem hx
 rw[h j hj]
 rfl
theorem opsOf_get(l:List OpR)(k:Nat)(h:k<l.length)(h':k<(opsOf l).length):(opsOf l)[k]=l[k].o:=by simp[opsOf]
theorem opsOf_length(l:List OpR):(opsOf l).length=l.length:=by simp[opsOf]
def doZ:Array Value:=#[.nilFunc,.nilFunc,.nilFunc,.nilFunc,.nilFunc,.nilFunc,.nilFunc]
theorem zeroDo:∀ w,(zeroValue 109).run Tryz.prog w = .ok (.agg doZ) w:=fun w=>by unfold doZ;kernel_rfl
theorem builtDo:Tryz.prog.built 109 [(1,.func (.func 41) #[] #[]),(2,.func (.func 42) #[] #[]),(3,.func (.func 43) #[] #[]),(4,.func (.func 44) #[] #[]),(5,.func (.func 45) #[] #[]),(6,.func (.func 46) #[] #[])]=some doC:=by unfold doC;kernel_rfl
theorem doC_one:doC.all (·.oneCell')=true:=by unfold doC;rw[List.all_toArray];rfl
theorem doI:(Tryz.prog.info? 109).map (·.size)=some doC.size:=by unfold doC;kernel_rfl
theorem builtMach(key:Nat→Nat)(g9 gv:Nat):Tryz.prog.built 106 [(0,.agg (arr 16 (c8 key)).toArray),(1,.pointer (some ⟨g9,0,none⟩)),(2,.pointer (some ⟨gv,0,none⟩))]=some (machC key g9 gv):=by unfold machC;kernel_rfl
theorem builtRow{kd c nw lv:Int}{d:List Int}(hd:d.length=32):Tryz.prog.built 31 [(0,.int .i64 kd),(1,.int .i64 c),(2,.int .i64 nw),(3,.int .i64 lv),(4,.agg (u8s d).toArray)]=some (rowC ⟨kd,c,nw,lv,d⟩).toArray:=by
 obtain⟨D,hD⟩:∃ D:Nat→Int,d=(List.range 32).map D:=⟨fun i=>d.getD i 0,list_of_range d 32 hd⟩
 subst hD
 unfold rowC u8s
 kernel_rfl
theorem tRow:SlT Tryz.prog 24 31 36 64:=SlT.mk' Tryz.underlying24 (z:=.agg rowZ) (by unfold rowZ;kernel_rfl) (by unfold rowZ;rfl) (by decide)
section
variable {w0 w w' : World} {gv g9 k N : Nat} {key : Nat → Nat} {skew : Int} {s : VS} {X Y : Nat → Prop}
theorem VE.grown{v:Value}(h:VE w0 w gv g9 k N key skew s X)(hg:w.grownBy w' v.ownBlock)(hv:∀ b,v.ownBlock=some b→X b∧w0.heap.size≤b)(hY:∀ b,Y b→X b∨(w.heap.size≤b∧b<w'.heap.size)):VE w0 w' gv g9 k N key skew s Y:=by
 have key2:∀(m:DiskM) (cv:Value) (F:List Nat),VV w0 w m gv k N key skew s cv F→(∀ b,X b→Far m (gv :: F) b∧b<w.heap.size)→VV w0 w' m gv k N key skew s cv F→∀ b,Y b→Far m (gv :: F) b∧b<w'.heap.size:=fun m cv F hv hx _ b hb=>by
  rcases hY b hb with h1|h1
  ·exact⟨(hx b h1).1,Nat.lt_of_lt_of_le (hx b h1).2 hg.size⟩
  ·exact⟨hv.far_new h1.1,h1.2⟩
 cases hb:v.ownBlock with
 | none=>
  rw[hb] at hg
  have hB:Below w.heap.size w w':=(Below.refl _ w).grown hg (Nat.le_refl _) (fun b h=>by cases h)
  obtain⟨m,cv,F,h1,h2,h3⟩:=h
  exact⟨m,cv,F,h1,h2.keep hB,key2 m cv F h2 h3 (h2.keep hB)⟩
 | some g=>
  rw[hb] at hg
  have ho:=Off.of_grown hg
  obtain⟨hX,hl⟩:=hv g hb
  obtain⟨m,cv,F,h1,h2,h3⟩:=h
  have h4:VV w0 w' m gv k N key skew s cv F:=by
   have hf:=(h3 g hX).1
   have hne:gv≠g:=fun e=>hf.2 (e ▸ List.mem_cons_self ..)
   exact⟨⟨h2.st.dk.offO ho hf.1,h2.st.ft,h2.st.bel.trans (ho.below hl h2.st.bel.size)⟩,ho.blk h2.blk hne,h2.co.off ho ⟨hf.1,fun hm=>hf.2 (List.mem_cons.2 (.inr hm))⟩,h2.far,h2.lo,h2.now,h2.skew,h2.len,h2.few,h2.rm⟩
  exact⟨m,cv,F,h1,h4,key2 m cv F h2 h3 h4⟩
theorem XT.blk{g t:Nat}{cs:Array Value}(h:XT X w w')(hX:X g)(hB:Blk w g t cs):Blk w' g t cs:=(h.block g hX).trans hB
theorem XT.own{base e s n:Nat}{v:Value}{xs:List Value}(h:XT X w w')(ho:w.ownsRow base e s v n xs)(hX:∀ b,v.ownBlock=some b→X b):w'.ownsRow base e s v n xs:=own_blk ho (fun b hb=>h.block b (hX b hb))
theorem XT.less(h:XT X w w')(hY:∀ b,Y b→X b):XT Y w w':=⟨h.size,fun b hb=>h.block b (hY b hb)⟩
end
theorem grown_blk{w w':World}{base e s n g t:Nat}{v:Value}{xs:List Value}{cs:Array Value}(hg:w.grownBy w' v.ownBlock)(ho:w.ownsRow base e s v n xs)(hB:Blk w g t cs)(hne:t≠e):Blk w' g t cs:=(hg.block g hB.lt (own_ne ho hB hne)).trans hB
structure RwX(gO gm g16 gv:Nat)(kd:Int)(dig:List Int)(W:World):Prop where
 o:W.cell? ⟨gO,0,none⟩=some (.int .i64 kd)
 m:W.cell? ⟨gm,17,none⟩=some (.pointer (some ⟨gv,0,none⟩))
 d:W.rangeAt g16 0 (u8s dig)
theorem rwX{gO gm g16 gv g9:Nat}{key:Nat→Nat}{dig:List Int}{x:OpR}{W:World}(h1:Blk W gO 71 (opC x).toArray)(h2:Blk W gm 106 (machC key g9 gv))(h3:Blk W g16 26 (u8s dig).toArray):RwX gO gm g16 gv x.o.kind dig W:=
 ⟨(h1.cell 0).trans rfl,(mach_cells h2).2.1,by have:=h3.range;rwa [List.toList_toArray] at this⟩
def OpP(w0 wN:World)(gv g9 k N:Nat)(key:Nat→Nat)(skew:Int)(X:Nat→Prop)(r:(Int×List Int)×VS)(v15 v16:Value)(wx:World):Prop:=
 ∃ g16,v15 = .int .i64 r.1.1∧v16 = .pointer (some ⟨g16,0,none⟩)∧Blk wx g16 26 (u8s r.1.2).toArray∧VE w0 wx gv g9 k N key skew r.2 (fun b=>X b∨b=g16)∧XT X wN wx
theorem blk_row{W:World}{g t:Nat}{old:Array Value}(new:List Value)(h:Blk W g t old)(hl:old.size=new.length):Blk (W.setCells g 0 new) g t new.toArray:=by
 have key:∀(new pre mid:List Value) {w:World},mid.length=new.length→Blk w g t (pre++mid).toArray→Blk (w.setCells g pre.length new) g t (pre++new).toArray:=by
  intro new
  induction new with
  | nil=>
   intro pre mid w hl h
   obtain rfl:mid=[]:=List.eq_nil_of_length_eq_zero hl
   exact h
  | cons u new ih=>
   intro pre mid w hl h
   cases mid with
   | nil=>simp at hl
   | cons m mid=>
    have h1:=h.set_ pre.length u
    rw[List.setIfInBounds_toArray,List.set_append,if_neg (by omega),Nat.sub_self] at h1
    have h3:=ih (pre++[u]) mid (w:=w.setCell ⟨g,pre.length,none⟩ u) (by simpa using hl) (by simpa using h1)
    rw[List.length_append] at h3
    have e:pre++u :: new=(pre++[u])++new:=by simp
    rw[e]
    exact h3
 have:=key new [] old.toList (w:=W) (by rw[Array.length_toList];exact hl) (by simpa using h)
 simpa using this
theorem opP_end{w0 wN w5:World}{gv g9 k N g16:Nat}{key:Nat→Nat}{skew:Int}{X:Nat→Prop}{r:(Int×List Int)×VS}(hX:∀ b,X b→b<wN.heap.size)(hl:w0.heap.size≤wN.heap.size)(h16:wN.heap.size≤g16)(hB:Blk w5 g16 26 dZ)(hv:VE w0 w5 gv g9 k N key skew r.2 (fun b=>X b∨b=g16))(hx:XT X wN w5)(hd:r.1.2.length=32):
  OpP w0 wN gv g9 k N key skew X r (.int .i64 r.1.1) (.pointer (some ⟨g16,0,none⟩)) (w5.setCells g16 0 (u8s r.1.2)):=by
 have ho:=setCells_off g16 (u8s r.1.2) 0 w5
 refine⟨g16,rfl,rfl,blk_row _ hB ?_,hv.off ho (.inr rfl) (Nat.le_trans hl h16),⟨Nat.le_trans hx.size ho.size,fun b hb=>?_⟩⟩
 ·rw[u8s_length,hd];unfold dZ;rfl
 ·have h1:=hX b hb
  exact(ho.block b (Nat.lt_of_lt_of_le h1 hx.size) (by omega)).trans (hx.block b hb)
structure OpsX(gO gd:Nat)(x:OpR)(f:FuncId)(W:World):Prop where
 o:W.rangeAt gO 0 (opC x)
 d:W.cell? ⟨gd,x.o.kind.toNat,none⟩=some (.func (.func f) #[] #[])
theorem opsX{gO gd:Nat}{x:OpR}{f:FuncId}{W:World}(h1:Blk W gO 71 (opC x).toArray)(h2:Blk W gd 109 doC)(hf:doC[x.o.kind.toNat]? = some (.func (.func f) #[] #[])):OpsX gO gd x f W:=
 ⟨by have:=h1.range;rwa [List.toList_toArray] at this,(h2.cell _).trans hf⟩
theorem hne_16{W:World}{g16:Nat}(h:Blk W g16 26 dZ){g t:Nat}{cs:Array Value}(k:Blk W g t cs)(hne:t≠26):g≠g16:=fun e=>by
 subst e
 unfold Blk at h k
 rw[h] at k
 injection k with k
 injection k with _ k _
 exact hne k.symm
theorem exec_build1{P:Program}{a:Act}{o:Oper}{t:TypeId}{x:Operand}{z v:Value}{w w':World}(ho:o.op = .buildSlice t 1 #[(0,x)])(hx:a.eval x=z)(h:(Instr.buildSlice t 1 #[(0,z)]).run P w = .ok v w'):(execOp a.eval o).run P w = .ok (.value v) w':=by
 subst hx
 unfold execOp
 simp only[ho,Sem.run_bind,List.map_toArray,List.map_cons,List.map_nil,h,Result.andThen_ok]
 rfl
theorem exec_app{P:Program}{a:Act}{o:Oper}{t:TypeId}{p q:Operand}{x y v:Value}{w w':World}(ho:o.op = .call { callee:=.builtin .append,args:=#[p,q],argTypes:=#[t,t] })(hx:a.eval p=x)(hy:a.eval q=y)(h:(Builtin.append_ #[t,t] o.type #[x,y]).run P w = .ok v w'):(execOp a.eval o).run P w = .ok (.value v) w':=by
 subst hx hy
 unfold execOp
 simp only[ho,resolve,invoke,builtin,Sem.run_bind,Sem.run_pure,Result.andThen_ok,List.map_toArray,List.map_cons,List.map_nil,h]
end
section
open Go.RowKit
attribute [local irreducible] wpQuiet wpAnyH
def RunF(w:World)(r:Ans×List RowD)(e:Ending)(w':World):Prop:=match r.1 with
 | some x=>e = .returned (.tuple #[.slice none 0 0,valE (some x)])∧Below w.heap.size w w'
 | none=>∃ v,e = .returned (.tuple #[v,.nilIface])∧w'.ownsRow w.heap.size 31 36 v r.2.length (r.2.flatMap rowC)∧Below w.heap.size w w'
theorem erun_of{r:Ans×List RowD}(c:ConfD)(sl:Value)(w:World)(h:∀ w1,Below w.heap.size w w1→Calls Tryz.prog 23 #[.agg (confC c).toArray,sl] w1 (RunQ w1 r)):
  Calls Tryz.prog 11 #[.agg (confC c).toArray,sl] w (RunF w r):=by
 obtain⟨w1,hw1⟩:∃ W,W=w.alloc (.cells (confC c).toArray 45):=⟨_,rfl⟩
 obtain⟨gc,hgc⟩:∃ g,g=w.heap.size:=⟨_,rfl⟩
 have HB1:Hid (Below w.heap.size w w1):=Lib.hid (by rw[hw1];exact bel1 _ _)
 have hC1:Blk w1 gc 45 (confC c).toArray:=by rw[hw1,hgc];exact Blk.new _ _ _
 have HROW:Hid (w1.rangeAt gc 0 (confC c)):=Lib.hid (by have:=hC1.range;rwa [List.toList_toArray] at this)
 have HCI:Hid ((Tryz.prog.info? 45).map (·.size)=some (confC c).length):=Lib.hid (by rw[confC_length];kernel_rfl)
 have HR:=Lib.hid (h w1 HB1.out)
 obtain⟨K,hK⟩:∃ K,K=confC c:=⟨_,rfl⟩
 rw[← hK] at hw1 HROW HCI HR ⊢
 clear hK h hC1
 obtain⟨a,rows⟩:=r
 obtain⟨PQ,hPQ⟩:∃ q,q=RunF w (a,rows):=⟨_,rfl⟩
 have HPQ:=Lib.hid hPQ
 rw[← hPQ]
 clear hPQ
 go_enter Tryz.func11,Tryz.ntmps11
 go_upto_region 1 with fail
 rw[← hw1,← hgc]
 clear hw1 hgc
 cases a with
 | some x=>
  go_wp2_with (first
   | (refine ld 45 (.tmp 2) rfl rfl (by rfl) HROW.out Tryz.underlying45 rfl HCI.out ?_)
   | (go_at_call 23;refine HR.mono ?_;rintro e w2 ⟨rfl,hb2⟩))
  first|go_ret2|skip
  rw[HPQ.out]
  exact⟨rfl,bstep HB1.out hb2⟩
 | none=>
  go_wp2_with (first
   | (refine ld 45 (.tmp 2) rfl rfl (by rfl) HROW.out Tryz.underlying45 rfl HCI.out ?_)
   | (go_at_call 23;refine HR.mono ?_;rintro e w2 ⟨v,g,rfl,ho,hb2⟩))
  first|go_ret2|skip
  rw[HPQ.out]
  exact⟨v,rfl,own_base ho HB1.size,bstep HB1.out hb2⟩
def playR(V:VerF)(c:ConfD)(s:Bs):Ans×Bs:=
 if rightC c=false then (some (15,none),[])
 else if (parseT s).1=0 then ((runR V c (parseT s).2).1,textE (runR V c (parseT s).2).2)
 else (some (16,some ((parseT s).1:Int)),[])
theorem eplay_of{V:VerF}(c:ConfD)(s:Bs)(w:World)(hml:ML w)(ht:Tab w)(hs:s.length≤10000000)
  (h:∀(w1:World) (l:List OpR) (A:Option Addr) (cap:Nat),Below w.heap.size w w1→opsOf l=(parseT s).2→Sn w1 4 (.slice A l.length cap) l.length (l.flatMap opC)→(∀ x∈l,OpI w1 x) →
   Calls Tryz.prog 11 #[.agg (confC c).toArray,.slice A l.length cap] w1 (RunF w1 (runR V c (opsOf l))))
  (hok:∀ r∈(runR V c (parseT s).2).2,RowOk r) (hlen:(runR V c (parseT s).2).2.length≤100000) (hbad:∀ x,(runR V c (parseT s).2).1=some x→(runR V c (parseT s).2).2=[]):
  Calls Tryz.prog 15 #[.agg (confC c).toArray,.string (SBy s)] w fun e w'=>e = .returned (.tuple #[.string (SBy (playR V c s).2),valE (playR V c s).1])∧Below w.heap.size w w':=by
 have HRUN:=Lib.hid h
 have HOK:=Lib.hid hok
 have HBAD:=Lib.hid hbad
 have HT:=Lib.hid ht
 obtain⟨w1,hw1⟩:∃ W,W=w.alloc (.cells (confC c).toArray 45):=⟨_,rfl⟩
 obtain⟨gc,hgc⟩:∃ g,g=w.heap.size:=⟨_,rfl⟩
 have HB1:Hid (Below w.heap.size w w1):=Lib.hid (by rw[hw1];exact bel1 _ _)
 have HC1:Hid (Blk w1 gc 45 (confC c).toArray):=Lib.hid (by rw[hw1,hgc];exact Blk.new _ _ _)
 have HROW:Hid (∀ W,Below w1.heap.size w1 W→W.rangeAt gc 0 (confC c)):=Lib.hid (fun W hW=>by have:=(HC1.keep hW).range;rwa [List.toList_toArray] at this)
 have HCI:Hid ((Tryz.prog.info? 45).map (·.size)=some (confC c).length):=Lib.hid (by rw[confC_length];kernel_rfl)
 have HER:=Lib.hid (eright_any c w1)
 have HP:=Lib.hid (fun(w2:World) (hb:Below w1.heap.size w1 w2)=>Parse_any s w2 (hml.below (bstep HB1.out hb)) hs)
 clear h hok hbad ht hml HC1
 obtain⟨K,hK⟩:∃ K,K=confC c:=⟨_,rfl⟩
 rw[← hK] at hw1 HROW HCI HER HRUN ⊢
 clear hK
 obtain⟨pr,hpr⟩:∃ p,p=playR V c s:=⟨_,rfl⟩
 have HPR:=Lib.hid hpr
 rw[← hpr]
 clear hpr
 obtain⟨S,hS⟩:∃ S,S=SBy s:=⟨_,rfl⟩
 rw[← hS] at HP ⊢
 clear hS
 cases hrc:rightC c with
 | false=>
  rw[hrc] at HER
  have HR:Hid (pr=(some (15,none),[])):=Lib.hid (by rw[HPR.out];unfold playR;rw[if_pos hrc])
  clear hrc HRUN
  go_enter Tryz.func15,Tryz.ntmps15
  go_upto_region 1 with fail
  rw[← hw1,← hgc]
  clear hw1 hgc
  go_wp2_with (first
   | (refine ld 45 (.tmp 2) rfl rfl (by rfl) (HROW.out _ (Below.refl _ _)) Tryz.underlying45 rfl HCI.out ?_)
   | (go_at_call 17;refine HER.mono ?_;rintro e w2 ⟨rfl,hb2⟩))
  first|go_ret2|skip
  rw[HR.out]
  exact⟨rfl,bstep HB1.out hb2⟩
 | true=>
  rw[hrc] at HER
  have HR:Hid (pr=if (parseT s).1=0 then ((runR V c (parseT s).2).1,textE (runR V c (parseT s).2).2) else (some (16,some ((parseT s).1:Int)),[])):=Lib.hid (by rw[HPR.out];unfold playR;rw[if_neg (by rw[hrc];simp)])
  clear hrc
  go_enter Tryz.func15,Tryz.ntmps15
  go_upto_region 1 with fail
  rw[← hw1,← hgc]
  clear hw1 hgc
  go_upto_region 3 with (first
   | (refine ld 45 (.tmp 2) rfl rfl (by rfl) (HROW.out _ (Below.refl _ _)) Tryz.underlying45 rfl HCI.out ?_)
   | (go_at_call 17;refine HER.mono ?_;rintro e w2 ⟨rfl,hb2⟩))
  have HB12:=Lib.hid hb2
  clear HER hb2
  go_upto_region 4 with (go_at_call 33;refine(HP.out _ HB12.out).mono ?_;rintro e w3 ⟨hb3,v,ev,rfl,hres⟩)
  rcases hres with ⟨h0,rfl,R,hR,hown,hops⟩|⟨h1,rfl,rfl⟩
  ·obtain⟨A3,c3,rfl,hsn,_⟩:=own_sn hown
   have HB13:=Lib.hid (bstep HB12.out hb3)
   have HBW:=Lib.hid (bstep HB1.out HB13.out)
   have HRR:=Lib.hid (HRUN.out w3 R A3 c3 HBW.out hR hsn hops)
   rw[hR] at HRR
   have HR2:Hid (pr=((runR V c (parseT s).2).1,textE (runR V c (parseT s).2).2)):=Lib.hid (by rw[HR.out,if_pos h0])
   obtain⟨rr,hrr⟩:∃ r,r=runR V c (parseT s).2:=⟨_,rfl⟩
   rw[← hrr] at HRR HR2 HOK HBAD hlen
   obtain⟨n3,hn3⟩:∃ n,n=R.length:=⟨_,rfl⟩
   rw[← hn3] at HRR ⊢
   clear hown hops hsn hb3 hR h0 HRUN HP HR hrr hn3
   obtain⟨a,rows⟩:=rr
   go_upto_region 6 with fail
   cases a with
   | some x=>
    obtain rfl:rows=[]:=HBAD.out x rfl
    go_wp2_with (first
     | (refine ld 45 (.tmp 2) rfl rfl (by rfl) (HROW.out _ HB13.out) Tryz.underlying45 rfl HCI.out ?_)
     | (go_at_call 11;refine HRR.mono ?_;rintro e w4 ⟨rfl,hb4⟩;obtain⟨t,u,hv⟩:=valE_form x;rw[hv];have HVV:=Lib.hid hv;have hnt:=neq_nil t u))
    first|go_ret2|skip
    rw[HR2.out,← HVV.out]
    exact⟨rfl,bstep HBW.out hb4⟩
   | none=>
    go_upto_region 9 with (first
     | (refine ld 45 (.tmp 2) rfl rfl (by rfl) (HROW.out _ HB13.out) Tryz.underlying45 rfl HCI.out ?_)
     | (go_at_call 11;refine HRR.mono ?_;rintro e w4 ⟨v4,rfl,ho4,hb4⟩))
    obtain⟨A4,c4,rfl,hsn4,_⟩:=own_sn ho4
    have HB4:=Lib.hid (bstep HBW.out hb4)
    have HTX:=Lib.hid (etext_any rows A4 c4 w4 (HT.below HB4.out) hsn4 HOK.out hlen)
    obtain⟨SS,hSS⟩:∃ S,S=SBy (textE rows):=⟨_,rfl⟩
    have HSS:=Lib.hid hSS
    rw[← hSS] at HTX
    obtain⟨n4,hn4⟩:∃ n,n=rows.length:=⟨_,rfl⟩
    rw[← hn4] at HTX ⊢
    clear hsn4 ho4 hb4 hSS hn4
    go_wp2_with (go_at_call 7;refine HTX.mono ?_;rintro e w5 ⟨rfl,hb5⟩)
    first|go_ret2|skip
    rw[HR2.out,HSS.out]
    exact⟨rfl,bstep HB4.out hb5⟩
  ·have HR2:Hid (pr=(some (16,some ((parseT s).1:Int)),[])):=Lib.hid (by rw[HR.out,if_neg (by omega)])
   have HB3:=Lib.hid (bstep HB1.out (bstep HB12.out hb3))
   obtain⟨t,u,hev⟩:∃ t u,errV (parseT s).1 = .iface t u:=⟨_,_,rfl⟩
   have HEV:Hid (valE (some (16,some ((parseT s).1:Int))) = .iface t u):=Lib.hid hev
   rw[hev]
   have hnt:=neq_nil t u
   clear hev HRUN HP HR h1 hb3
   go_wp2_with fail
   first|go_ret2|skip
   rw[HR2.out]
   refine⟨?_,HB3.out⟩
   show _=Ending.returned (.tuple #[.string (SBy []),valE (some (16,some ((parseT s).1:Int)))])
   rw[HEV.out]
   rfl
def c58:ConfD:=⟨fun _=>0,5,8⟩
def c51:ConfD:=⟨fun _=>0,5,1⟩
def text1:Bs:=[98,111,111,116,10,116,105,99,107,32,57,10,118,101,114,105,102,121,10]
def out1:Bs:=[98,111,111,116,32,78,79,78,69,32,48,32,48,10,116,105,99,107,32,78,79,78,69,32,57,32,48,10,118,101,114,105,102,121,32,77,65,76,70,79,82,77,69,68,32,57,32,48,10]
def ops1:List OpD:=[⟨2,0,[],[]⟩,⟨1,9,[],[]⟩,⟨3,0,[],[]⟩]
def rows1:List RowD:=[⟨2,0,0,0,z32L⟩,⟨1,0,9,0,z32L⟩,⟨3,1,9,0,z32L⟩]
def tick4:OpD:=⟨1,4,[],[]⟩
def row4:RowD:=⟨1,0,4,0,z32L⟩
theorem parse1:parseT text1=(0,ops1):=by kernel_rfl
theorem parse0:parseT []=(0,[]):=by kernel_rfl
theorem text1_out:textE rows1=out1:=by kernel_rfl
def VNil(V:VerF):Prop:=∀ s,V s []=((1,z32L),lookS s)
theorem rows1_ok{V:VerF}(hV:VNil V):rowsL V 5 ⟨newD 8,0,none⟩ ops1=rows1:=by
 obtain⟨r',_,ho⟩:=open_new 8 (by omega)
 have hs:startD (newD 8)=newD 8:=rfl
 have hb:bootS 5 ⟨newD 8,0,none⟩=(none,⟨qD ((List.replicate 8 zsec).set 0 (rec 1 toll)) [] 3 r',0,some ⟨⟨0,0,1,0,false⟩,liveL (refOf []) 0,addS 0 5⟩⟩):=by
  unfold bootS
  rw[hs,ho]
 obtain⟨S1,hS1⟩:∃ S,S=VS.mk (qD ((List.replicate 8 zsec).set 0 (rec 1 toll)) [] 3 r') 0 (some ⟨⟨0,0,1,0,false⟩,liveL (refOf []) 0,addS 0 5⟩):=⟨_,rfl⟩
 have hl1:lookS S1=S1:=by rw[hS1];rfl
 have hv1:liveS S1=[]:=by rw[hS1];rfl
 have ht:tickS S1 9=⟨S1.d,9,S1.co⟩:=by
  unfold tickS
  rw[hl1,hS1]
  rfl
 obtain⟨S2,hS2⟩:∃ S,S=VS.mk S1.d 9 S1.co:=⟨_,rfl⟩
 have hl2:lookS S2=S2:=by rw[hS2,hS1];rfl
 have hv2:liveS S2=[]:=by rw[hS2,hS1];rfl
 have hn1:S1.now=0:=by rw[hS1]
 have hn2:S2.now=9:=by rw[hS2]
 rw[← hS1] at hb
 rw[← hS2] at ht
 have a1:actS V 5 ⟨newD 8,0,none⟩ ⟨2,0,[],[]⟩=((0,z32L),S1):=by
  unfold actS
  rw[hb]
  rfl
 have a2:actS V 5 S1 ⟨1,9,[],[]⟩=((0,z32L),S2):=by
  unfold actS
  rw[ht]
  rfl
 have a3:actS V 5 S2 ⟨3,0,[],[]⟩=((1,z32L),S2):=by
  have e:=hV S2
  rw[hl2] at e
  exact e
 have r1:rowE V 5 ⟨newD 8,0,none⟩ ⟨2,0,[],[]⟩=⟨2,0,0,0,z32L⟩:=by
  unfold rowE
  rw[a1,hv1,hn1]
  rfl
 have n1:nextS V 5 ⟨newD 8,0,none⟩ ⟨2,0,[],[]⟩=S1:=by
  unfold nextS
  rw[a1]
  exact hl1
 have r2:rowE V 5 S1 ⟨1,9,[],[]⟩=⟨1,0,9,0,z32L⟩:=by
  unfold rowE
  rw[a2,hv2,hn2]
  rfl
 have n2:nextS V 5 S1 ⟨1,9,[],[]⟩=S2:=by
  unfold nextS
  rw[a2]
  exact hl2
 have r3:rowE V 5 S2 ⟨3,0,[],[]⟩=⟨3,1,9,0,z32L⟩:=by
  unfold rowE
  rw[a3,hv2,hn2]
  rfl
 show [rowE V 5 ⟨newD 8,0,none⟩ ⟨2,0,[],[]⟩,rowE V 5 (nextS V 5 ⟨newD 8,0,none⟩ ⟨2,0,[],[]⟩) ⟨1,9,[],[]⟩,rowE V 5 (nextS V 5 (nextS V 5 ⟨newD 8,0,none⟩ ⟨2,0,[],[]⟩) ⟨1,9,[],[]⟩) ⟨3,0,[],[]⟩]=_
 rw[r1,n1,r2,n2,r3]
 rfl
theorem run1_ok{V:VerF}(hV:VNil V):runR V c58 ops1=(none,rows1):=by
 unfold runR
 rw[if_neg (by decide),show badAt ops1=none by decide]
 exact congrArg (Prod.mk none) (rows1_ok hV)
theorem run4_ok{V:VerF}:runR V c58 [tick4]=(none,[row4]):=by
 unfold runR
 rw[if_neg (by decide),show badAt [tick4]=none by decide]
 rfl
theorem play1_ok{V:VerF}(hV:VNil V):playR V c58 text1=(none,out1):=by
 unfold playR
 rw[if_neg (by decide),parse1]
 simp only[if_true]
 rw[run1_ok hV]
 exact congrArg (Prod.mk none) text1_out
theorem play0_ok{V:VerF}:playR V c51 []=(some (15,none),[]):=by
 unfold playR
 rw[if_pos (by decide)]
theorem rows1_rowOk:∀ r∈rows1,RowOk r:=by
 intro r hr
 simp only[rows1,List.mem_cons,List.not_mem_nil,or_false] at hr
 rcases hr with rfl|rfl|rfl <;> exact⟨⟨by decide,by decide⟩,⟨by decide,by decide⟩,⟨by decide,by decide⟩,⟨by decide,by decide⟩,by decide,by decide⟩
theorem code25_any(o:Ans)(w:World):Calls Tryz.prog 16 #[valE o] w fun e w'=>e = .returned (.int .i64 (codeA o))∧Below w.heap.size w w':=by
 have HC:=Lib.hid (code_val o w)
 obtain⟨v,hv⟩:∃ v,v=valE o:=⟨_,rfl⟩
 obtain⟨z,hz⟩:∃ z,z=codeA o:=⟨_,rfl⟩
 rw[← hv,← hz] at HC ⊢
 clear hv hz
 go_enter Tryz.func16,Tryz.ntmps16
 go_wp2_with (go_at_call 34;refine HC.mono ?_;rintro e w1 ⟨rfl,hb⟩)
 first|go_ret|skip
 exact⟨rfl,hb⟩
def K58:Array Value:=#[.int .u8 0,.int .u8 0,.int .u8 0,.int .u8 0,.int .u8 0,.int .u8 0,.int .u8 0,.int .u8 0,.int .u8 0,.int .u8 0,.int .u8 0,.int .u8 0,.int .u8 0,.int .u8 0,.int .u8 0,.int .u8 0,.int .i64 5,.int .i64 8]
theorem conf58:(confC c58).toArray=K58:=by unfold K58;kernel_rfl
theorem built58:Tryz.prog.built 45 [(1,.int .i64 5),(2,.int .i64 8)]=some K58:=by unfold K58;kernel_rfl
theorem built51:Tryz.prog.built 45 [(1,.int .i64 5),(2,.int .i64 1)]=some (confC c51).toArray:=by kernel_rfl
def cZ:Array Value:=#[.int .u8 0,.int .u8 0,.int .u8 0,.int .u8 0,.int .u8 0,.int .u8 0,.int .u8 0,.int .u8 0,.int .u8 0,.int .u8 0,.int .u8 0,.int .u8 0,.int .u8 0,.int .u8 0,.int .u8 0,.int .u8 0,.int .i64 0,.int .i64 0]
theorem zeroConf:∀ w,(zeroValue 45).run Tryz.prog w = .ok (.agg cZ) w:=fun w=>by unfold cZ;kernel_rfl
theorem confI:(Tryz.prog.info? 45).map (·.size)=some K58.size:=by unfold K58;kernel_rfl
theorem confL:(Tryz.prog.info? 45).map (·.size)=some K58.toList.length:=by unfold K58;kernel_rfl
theorem confOne:K58.all (·.oneCell')=true:=by unfold K58;rw[List.all_toArray];rfl
theorem confZs:cZ.size=K58.size:=rfl
theorem builtRow4:Tryz.prog.built 31 [(0,.int .i64 1),(2,.int .i64 4)]=some (rowC row4).toArray:=by unfold row4 z32L;kernel_rfl
theorem eqRow4(w:World):(binOp .eql 31 (.agg (rowC row4).toArray) (.agg (rowC row4).toArray)).run Tryz.prog w = .ok (.bool true) w:=by unfold row4 z32L;kernel_rfl
theorem eqgRow4(p q:Operand)(w:World):(eqGuard .eql 31 p q (.agg (rowC row4).toArray) (.agg (rowC row4).toArray)).run Tryz.prog w = .ok () w:=by unfold row4 z32L;kernel_rfl
theorem row4I:(Tryz.prog.info? 31).map (·.size)=some (rowC row4).length:=by kernel_rfl
theorem awake_of(w:World)
  (hp1:∀ w1,Below w.heap.size w w1→Calls Tryz.prog 15 #[.agg (confC c58).toArray,.string (SBy text1)] w1 fun e w'=>e = .returned (.tuple #[.string (SBy out1),.nilIface])∧Below w1.heap.size w1 w')
  (hp2:∀ w1,Below w.heap.size w w1→Calls Tryz.prog 15 #[.agg (confC c51).toArray,.string (SBy [])] w1 fun e w'=>e = .returned (.tuple #[.string (SBy []),valE (some (15,none))])∧Below w1.heap.size w1 w')
  (hr:∀ w1 A cap,Below w.heap.size w w1→Sn w1 4 (.slice A 1 cap) 1 (opC ⟨tick4,none,0,none,0⟩)→Calls Tryz.prog 11 #[.agg (confC c58).toArray,.slice A 1 cap] w1 (RunF w1 (none,[row4]))):
  Calls Tryz.prog 6 #[] w fun e w'=>e = .returned (.bool true)∧Below w.heap.size w w':=by
 have e1:SBy text1=⟨#[98,111,111,116,10,116,105,99,107,32,57,10,118,101,114,105,102,121,10]⟩:=by kernel_rfl
 have e2:SBy out1=⟨#[98,111,111,116,32,78,79,78,69,32,48,32,48,10,116,105,99,107,32,78,79,78,69,32,57,32,48,10,118,101,114,105,102,121,32,77,65,76,70,79,82,77,69,68,32,57,32,48,10]⟩:=by kernel_rfl
 have e3:SBy []=⟨#[]⟩:=by kernel_rfl
 rw[e1,e2] at hp1
 rw[e3] at hp2
 rw[conf58] at hp1 hr
 have HP1:=Lib.hid hp1
 have HP2:=Lib.hid hp2
 have HR:=Lib.hid hr
 clear hp1 hp2 hr e1 e2 e3
 have B58:=built58
 have B51:=built51
 have HI:=confI
 have HL:=confL
 have HO:=confOne
 have HZ:=confZs
 obtain⟨K,hK⟩:∃ K,K=K58:=⟨_,rfl⟩
 obtain⟨K1,hK1⟩:∃ K,K=(confC c51).toArray:=⟨_,rfl⟩
 have HRT:=Lib.hid (fun w1=>eright_any c58 w1)
 rw[conf58,show rightC c58=true by decide] at HRT
 rw[← hK] at HP1 HR B58 HI HL HO HZ HRT
 rw[← hK1] at HP2 B51
 clear hK hK1
 have HB58:=Lib.hid B58
 have HB51:=Lib.hid B51
 have HII:=Lib.hid HI
 have HLL:=Lib.hid HL
 have HOO:=Lib.hid HO
 have HZZ:=Lib.hid HZ
 clear B58 B51 HI HL HO HZ
 go_enter Tryz.func6,Tryz.ntmps6
 go_upto_region 2 with (first
  | (refine bldC 45 _ rfl rfl rfl HB58.out ?_)
  | (refine al 45 cZ rfl rfl zeroConf ?_)
  | (refine stNew 45 (.tmp 1) (.tmp 8) rfl rfl (by rfl) (by rfl) HII.out HZZ.out HOO.out ?_;intro w1 hB1 hb1 hz1))
 obtain⟨gc,hgc⟩:∃ g,g=w.heap.size:=⟨_,rfl⟩
 rw[← hgc] at hB1 ⊢
 have HB1:=Lib.hid hb1
 have HC1:Hid (∀ W,Below w1.heap.size w1 W→W.rangeAt gc 0 K.toList):=Lib.hid (fun W hW=>(Blk.keep (show Blk w1 gc 45 K from hB1) hW).range)
 clear hB1 hb1 hz1 hgc
 go_upto_region 3 with (first
  | (refine ld 45 (.tmp 1) rfl rfl (by rfl) (HC1.out _ (Below.refl _ _)) Tryz.underlying45 rfl HLL.out ?_)
  | (go_at_call 15;refine(HP1.out _ HB1.out).mono ?_;rintro e w2 ⟨rfl,hb2⟩))
 have HB2:=Lib.hid (bstep HB1.out hb2)
 have HB12:=Lib.hid hb2
 clear hb2 HP1
 go_upto_region 4 with (first
  | (refine bldC 45 _ rfl rfl rfl HB51.out ?_)
  | (go_at_call 15;refine(HP2.out _ HB2.out).mono ?_;rintro e w3 ⟨rfl,hb3⟩))
 have HB3:=Lib.hid (bstep HB2.out hb3)
 have HB13:=Lib.hid (bstep HB12.out hb3)
 clear hb3 HP2 HB2 HB12
 go_wp2_with (first
  | (refine ld 45 (.tmp 1) rfl rfl (by rfl) (HC1.out _ HB13.out) Tryz.underlying45 rfl HLL.out ?_))
 have hb4:Below w3.heap.size w3 (w3.alloc (.cells #[.int .i64 1,.int .i64 4,.slice none 0 0,.slice none 0 0] 71)):=bel1 _ _
 refine((HR.out _ _ _ (bstep HB3.out hb4) (Sn.newAt w3 #[.int .i64 1,.int .i64 4,.slice none 0 0,.slice none 0 0] 71 4 1 _ rfl rfl))).mono ?_
 rintro e w5 ⟨v5,rfl,ho5,hb5⟩
 obtain⟨A5,c5,hv5,hs5,_⟩:=own_sn ho5
 rw[hv5]
 obtain⟨b5,off5,hA5,hr5⟩:=hs5.range 0 (by decide)
 rw[hA5]
 have hr5':w5.rangeAt b5 off5 (rowC row4):=by
  have h:=hr5
  rw[Nat.zero_mul,Nat.add_zero] at h
  exact h
 have HR5:=Lib.hid (fun(W:World) (hW:Below w5.heap.size w5 W)=>(show W.rangeAt b5 off5 (rowC row4) from fun j u hj=>Below.cell' hW (hr5' j u hj)))
 have HB5:=Lib.hid (bstep HB3.out (bstep hb4 hb5))
 have HB15:=Lib.hid (bstep HB13.out (bstep hb4 hb5))
 clear hb4 ho5 hb5 hv5 hs5 hr5 hr5' hA5 HR
 have HC15:=Lib.hid (fun w1=>code25_any (some (15,none)) w1)
 obtain⟨ev,hev⟩:∃ v,v=valE (some (15,none)):=⟨_,rfl⟩
 rw[← hev] at HC15 ⊢
 rw[show codeA (some (15,none))=15 from rfl] at HC15
 have heq:=eqRow4
 have heg:=eqgRow4
 have HRL:=Lib.hid row4I
 have HBR:=Lib.hid builtRow4
 obtain⟨R,hR⟩:∃ R,R=rowC row4:=⟨_,rfl⟩
 rw[← hR] at HR5 HRL HBR heq heg
 clear hev hR
 go_wp2_with (first
  | (refine ld 45 (.tmp 1) rfl rfl (by rfl) (HC1.out _ (bstep HB15.out hb6)) Tryz.underlying45 rfl HLL.out ?_)
  | (refine bldC 31 _ rfl rfl rfl HBR.out ?_)
  | (refine ld 31 (.tmp 42) rfl rfl (by rfl) (HR5.out _ hb6) Tryz.underlying31 rfl HRL.out ?_)
  | (go_at_call 16;refine(HC15.out _).mono ?_;rintro e w6 ⟨rfl,hb6⟩)
  | (go_at_call 17;refine(HRT.out _).mono ?_;rintro e w7 ⟨rfl,hb7⟩))
 first|go_ret|skip
 exact⟨rfl,bstep HB5.out (bstep hb6 hb7)⟩
end
section
open Go.RowKit
def ReadsNames(w:World)(e:Ending)(w':World):Prop:=∃ b,e = .returned (.slice (some ⟨b,0,none⟩) 17 17)∧Below w.heap.size w w'∧(∀ j,j<17→w'.cell? ⟨b,j,none⟩=some (.string (nameOf j)))
theorem names_cells(c:Nat)(h:c<17):(strs namesL)[c]? = some (.string (nameOf c)):=by
 have hc:c=0∨c=1∨c=2∨c=3∨c=4∨c=5∨c=6∨c=7∨c=8∨c=9∨c=10∨c=11∨c=12∨c=13∨c=14∨c=15∨c=16:=by omega
 rcases hc with rfl|rfl|rfl|rfl|rfl|rfl|rfl|rfl|rfl|rfl|rfl|rfl|rfl|rfl|rfl|rfl|rfl <;> rfl
theorem ref_names(w:World):Calls Tryz.prog 36 #[] w (ReadsNames w):=by
 go_enter Tryz.func36,Tryz.ntmps36
 go_wp2
 go_ret
 refine⟨w.heap.size,rfl,(by repeat (first|exact Below.refl _ _|assumption|refine bdrewN ?_ _|refine Below.setCell ?_ (by first|exact Nat.le_refl _|assumption|omega|(simp <;> omega)) _|refine Below.alloc ?_ (by first|exact Nat.le_refl _|assumption|omega|(simp <;> omega)) _)),fun j hj=>?_⟩
 rw[← names_cells j hj]
 simp[go_sem,strs,namesL]
theorem ref_name_any(c:Int)(w:World):
  Calls Tryz.prog 21 #[.int .i64 c] w fun e w'=>e = .returned (.string (nameOf c))∧Below w.heap.size w w':=by
 by_cases h:c<0∨16<c
 ·have hn:=Lib.hid (nameOf_out c h)
  rcases h with hc|hc
  all_goals
   go_enter Tryz.func21,Tryz.ntmps21
   go_wp2_with fail
   go_ret
   exact⟨by rw[hn.out];rfl,Below.refl _ _⟩
 ·obtain⟨n,rfl⟩:∃ n:Nat,c=n:=⟨c.toNat,by omega⟩
  have h0:¬((n:Int)<0):=by omega
  have h1:¬((16:Int)<n):=by omega
  have h2:(n:Int)<17:=by omega
  clear h
  go_enter Tryz.func21,Tryz.ntmps21
  go_wp2_with fail
  refine(ref_names w).mono ?_
  rintro e w1 ⟨b,rfl,hb,hc⟩
  have hcell:=hc n (by omega)
  clear hc
  go_wp2_with fail
  go_ret
  exact⟨rfl,hb⟩
end
end Go.Proofs.YtiaigidbcljblaaGreatDoor
