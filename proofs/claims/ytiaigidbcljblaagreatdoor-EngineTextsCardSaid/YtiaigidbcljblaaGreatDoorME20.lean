import Derived.Test.YtiaigidbcljblaaGreatDoorME19
import Derived.Lib.Bytealg
import Derived.Lib.BytesEntry
import Derived.Test.YtiaigidbcljblaaGreatDoorME9
import Derived.DeepKeys
import Derived.Test.YtiaigidbcljblaaGreatDoorME1
import Derived.Deep.RegionHeld3
import Derived.Deep.AppendLies
import Derived.Test.YtiaigidbcljblaaGreatDoorME2
import Derived.Test.YtiaigidbcljblaaGreatDoorME5
import Derived.Deep.QuietTactic
set_option linter.unusedSimpArgs false
set_option maxRecDepth 100000
set_option maxHeartbeats 40000000
namespace Go.Proofs.YtiaigidbcljblaaGreatDoor
section
set_option maxRecDepth 100000
open Go.RowKit
def liveF(f:List Int→Option Int)(now:Int):List Int→Option Int:=fun d=>match f d with|some t=>if t<now then none else some t|none=>none
theorem DM.zero{w:World}{b n c:Nat}{f:List Int→Option Int}(h:DM w b n f c)(hz:∀ d,DigOk d→f d=none):c=0:=by
 obtain⟨D,hown,hf⟩:=h
 obtain⟨w',hrun,r1,r2,r3⟩:=hown.range keyed Tryz.underlying292
 rcases r1.next keyed 0 with ⟨h0,_⟩|⟨key,v,kl,y,w'',cnt',hkey,hlk,_⟩
 ·rw[← hf.1];exact h0
 ·obtain⟨d,hd,_,rfl⟩:=keyOf_inv hkey
  rw[hf.has hd,hz d hd] at hlk
  cases hlk
theorem Off.of_turned{w w':World}{b:Nat}(h:w.mapTurned w' b):Off b w w':=Off.of_grown h.grown
theorem drop_any(g b n c:Nat)(f:List Int→Option Int)(now:Int)(w:World)(h:IX w g b n f c)(hn:n≤1000):
  Calls Tryz.prog 152 #[.pointer (some ⟨g,0,none⟩),.int .i64 now] w fun e w'=>∃ k c':Nat,e = .returned (.int .i64 k)∧k+c'=c∧IX w' g b n (liveF f now) c'∧Off b w w':=by
 obtain⟨hg,hgb,hm⟩:=h
 have hc:=hm.le
 go_enter Tryz.func152,Tryz.ntmps152
 go_wp2_with (at_range;refine dRange Tryz.underlying292 rfl _ rfl rfl hm ?_;intro w1 hR1 hg1 hs1)
 simp only[Act.put,List.setIfInBounds_toArray,List.set_cons_zero,List.set_cons_succ]
 have hoff1:Off b w w1:=⟨hg1.os,hg1.tape,hg1.output,hg1.size,fun k hk _=>hg1.block k hk (by simp)⟩
 have hblt:=hm.lt
 have hglt:=cell_lt hg
 go_loopw [5] (fun m wr=>∃(k c' cnt:Nat) (f':List Int→Option Int) (left:List Int→Bool),m = .int .i64 k∧k+c'=c∧DR wr b w.heap.size n f' c' left cnt∧Off b w wr∧Hid (∀ d,DigOk d→f' d=if left d then f d else liveF f now d)) (fun _ wr=>wr.rangeLeft b w.heap.size)
 case atStart=>exact⟨0,c,c,f,_,rfl,by omega,hR1,hoff1,Lib.hid (fun d _=>by
  cases h:f d <;> simp[h,liveF])⟩
 case round=>
  obtain⟨k,c',cnt,f',left,rfl,hk,hR,hoff,HF⟩:=hrel
  have hgr:wr.cell? ⟨g,0,none⟩=some (.map (some b)):=hoff.cell hg hgb
  have hcnt:=Lib.hid hR.left_eq
  have hszr:=hoff.size
  go_wp2_with (at_next;refine dNext rfl _ rfl rfl hR ?_ ?_)
  ·intro h0 hall
   go_wp2_with fail
   go_ret
   refine⟨k,c',rfl,hk,⟨hgr,hgb,hR.owns.congr fun d hd=>?_⟩,hoff⟩
   rw[HF.out d hd,if_neg (by rw[hall d hd];simp)]
  ·intro d t w2 cnt' hd hti hl hfd hR2 hlt hg2 hs2 hen
   have h1:=u8s_one d
   have h32:(u8s d).length=32:=by simp[u8s,hd.len]
   have hfd0:f d=some t:=by
    have:=HF.out d hd
    rw[if_pos hl] at this
    rw[← this];exact hfd
   have hoff2:Off b w w2:=⟨hg2.os.trans hoff.os,hg2.tape.trans hoff.tape,hg2.output.trans hoff.output,by omega,fun i hi hne=>(hg2.block i (by omega) (fun e=>by injection e with e;omega)).trans (hoff.block i hi hne)⟩
   have hgr2:w2.cell? ⟨g,0,none⟩=some (.map (some b)):=hoff2.cell hg hgb
   have HFD:=Lib.hid hfd
   have HFD0:=Lib.hid hfd0
   have HLT:=Lib.hid hlt
   have HS2:=Lib.hid hs2
   clear hR hR1 hfd hfd0 hlt hs2
   rcases Bool.eq_false_or_eq_true (decide (t<now)) with t1|t1
   ·go_wp2_with (refine stNew 26 (.tmp 6) (.tmp 18) rfl rfl rfl rfl (by simp only[List.size_toArray,h32];kernel_rfl) (by simp only[List.size_toArray,h32] <;> rfl) h1 ?_;intro w3 hblk hb3 hs3)
    have hgr3:=Below.cell' hb3 hgr2
    have hR3:=hR2.keep hb3
    have hoff3:=hoff2.trans (Off.of_below hb3)
    have hrd3:=Blk.range hblk
    rw[List.toList_toArray] at hrd3
    have hw2b:w2.heap.size≠b:=by have:=hoff2.size;omega
    have hud:=Tryz.underlying26
    have hui:(Tryz.prog.info? 26).map (·.size)=some (u8s d).length:=by rw[h32];kernel_rfl
    have hR3d:DR w3.drew b w.heap.size n f' c' (fun x=>left x && !(x == d)) cnt':=hR3.of_blocks rfl rfl
    have e1:IntKind.i64.wrap ((k:Int)+1)=(k:Int)+1:=IntWalk.i64_in _ (by omega)
    clear hR2 hblk hen
    go_region_held3 (fun w'=>w'.cell? ⟨g,0,none⟩=some (.map (some b))∧w'.rangeAt w2.heap.size 0 (u8s d))
     (first
      | (refine⟨by assumption,by assumption⟩)
      | (go_split_ands;exact⟨by assumption,by assumption⟩)
      | (go_split_ands;exact⟨(Off.of_turned hturn).cell (by assumption) hgb,fun j u hj=>(Off.of_turned hturn).cell (show w3.drew.cell? ⟨w2.heap.size,0+j,none⟩=some u from hrd3 j u hj) hw2b⟩)
      | go_keep)
     ((refine stepDel Tryz.underlying292 _ _ rfl rfl rfl hR3d hd rfl ?_;intro w4 c4 cnt4 hR4 hc4 hle4 hturn))
    go_wp2_with fail
    have hoff4:=hoff3.trans (show Off b w3 w4 from(show Off b w3 w3.drew from⟨rfl,rfl,rfl,Nat.le_refl _,fun _ _ _=>rfl⟩).trans (Off.of_turned hturn))
    rw[HFD.out,Option.isSome_some,if_pos rfl] at hc4
    refine⟨⟨k+1,c4,cnt4,cut f' d,_,by go_num,by omega,hR4,hoff4,Lib.hid fun x hx=>?_⟩,?_⟩
    ·by_cases hxd:x=d
     ·subst hxd
      have hlt:=of_decide_eq_true t1
      simp[cut,liveF,HFD0.out,hlt]
     ·simp only[cut,if_neg hxd]
      rw[HF.out x hx]
      simp[hxd]
    ·rw[hcnt.out,hR4.left_eq]
     have:=HLT.out
     omega
   ·go_wp2_with (refine stNew 26 (.tmp 6) (.tmp 18) rfl rfl rfl rfl (by simp only[List.size_toArray,h32];kernel_rfl) (by simp only[List.size_toArray,h32] <;> rfl) h1 ?_;intro w3 hblk hb3 hs3)
    refine⟨⟨k,c',cnt',f',_,rfl,hk,hR2.keep hb3,hoff2.trans (Off.of_below hb3),Lib.hid fun x hx=>?_⟩,?_⟩
    ·by_cases hxd:x=d
     ·subst hxd
      have hlt:=of_decide_eq_false t1
      simp[liveF,HFD.out,HFD0.out,hlt]
     ·rw[HF.out x hx]
      simp[hxd]
    ·rw[hcnt.out,(hR2.keep hb3).left_eq]
     exact HLT.out
end
section
set_option maxRecDepth 100000
open Go.RowKit
def cmpI(x y:Int):Int:=if x<y then -1 else if y<x then 1 else 0
def cmpD:List Int→List Int→Int
 | [],[]=>0
 | [],_ :: _=>-1
 | _ :: _,[]=>1
 | a :: xs,b :: ys=>if a<b then -1 else if b<a then 1 else cmpD xs ys
def cmpE(p q:List Int×Int):Int:=if cmpI p.2 q.2≠0 then cmpI p.2 q.2 else cmpD p.1 q.1
theorem byte_lt{a b:Int}(ha:0≤a∧a≤255)(hb:0≤b∧b≤255):a.toNat.toUInt8<b.toNat.toUInt8 ↔ a<b:=by
 rw[UInt8.lt_iff_toNat_lt]
 simp only[Nat.toUInt8_eq,UInt8.toNat_ofNat']
 omega
theorem compareBytes_cmpD:∀(x y:List Int),(∀ b∈x,0≤b∧b≤255)→(∀ b∈y,0≤b∧b≤255)→Lib.compareBytes (Lib.bytesOf x) (Lib.bytesOf y)=cmpD x y
 | [],[],_,_=>rfl
 | [],_ :: _,_,_=>rfl
 | _ :: _,[],_,_=>rfl
 | a :: xs,b :: ys,hx,hy=>by
  have ih:=compareBytes_cmpD xs ys (fun c hc=>hx c (by simp[hc])) (fun c hc=>hy c (by simp[hc]))
  have ha:=hx a (by simp)
  have hb:=hy b (by simp)
  show(if a.toNat.toUInt8<b.toNat.toUInt8 then (-1:Int) else if b.toNat.toUInt8<a.toNat.toUInt8 then 1 else Lib.compareBytes (Lib.bytesOf xs) (Lib.bytesOf ys))=if a<b then -1 else if b<a then 1 else cmpD xs ys
  simp only[byte_lt ha hb,byte_lt hb ha,ih]
theorem run_cmp(g g':Nat)(c c':Nat)(x y:List Int)(w:World)(hx:DigOk x)(hy:DigOk y)(h:w.rangeAt g 0 (u8s x))(h':w.rangeAt g' 0 (u8s y)):
  (Extern.BytealgCompare.compare #[.slice (some ⟨g,0,none⟩) 32 c,.slice (some ⟨g',0,none⟩) 32 c']).run Tryz.prog w = .ok (.int .i64 (cmpD x y)) w:=by
 have key:∀(g c:Nat) (x:List Int),DigOk x→w.rangeAt g 0 (u8s x)→(Extern.Bytes.bytesOf (.slice (some ⟨g,0,none⟩) 32 c)).run Tryz.prog w = .ok ⟨(Lib.bytesOf x).toArray⟩ w:=by
  intro g c x hx h
  show(Extern.Bytes.loadBytes ⟨g,0,none⟩ 32 .empty).run Tryz.prog w=_
  have:=Lib.run_loadBytesX (P:=Tryz.prog) (w:=w) x ⟨g,0,none⟩ .empty (fun j u hj=>by
   have h1:=h j (.int .u8 u) (by simp[u8s,hj])
   by_cases hj0:j=0
   ·subst hj0;simpa [Addr.add] using h1
   ·simpa [Addr.add,hj0] using h1)
  rw[hx.len] at this
  rw[this]
  simp
 change Sem.run Tryz.prog (do pure (goInt (Extern.BytealgCompare.cmp (← Extern.Bytes.bytesOf (.slice (some ⟨g,0,none⟩) 32 c)) (← Extern.Bytes.bytesOf (.slice (some ⟨g',0,none⟩) 32 c'))))) w=_
 simp only[Sem.run_bind,Sem.run_pure,key g c x hx h,key g' c' y hy h',Result.andThen]
 rw[Lib.cmp_eq]
 show Result.ok (Value.int .i64 (Lib.compareBytes (Lib.bytesOf x).toArray.toList (Lib.bytesOf y).toArray.toList)) w=_
 rw[List.toList_toArray,List.toList_toArray,compareBytes_cmpD x y hx.byte hy.byte]
theorem bytes_Compare(g g':Nat)(c c':Nat)(x y:List Int)(w:World)(hx:DigOk x)(hy:DigOk y)(h:w.rangeAt g 0 (u8s x))(h':w.rangeAt g' 0 (u8s y)):
  Calls Tryz.prog 235 #[.slice (some ⟨g,0,none⟩) 32 c,.slice (some ⟨g',0,none⟩) 32 c'] w fun e w'=>e = .returned (.int .i64 (cmpD x y))∧w'=w:=by
 go_enter Tryz.func235,Tryz.ntmps235
 go_wp2
 rw[run_callFunc_extern Tryz.func301 (by kernel_rfl) (by kernel_rfl) (by kernel_rfl) (e:=Extern.BytealgCompare.compare) (by kernel_rfl)]
 rw[run_cmp g g' c c' x y w hx hy h h']
 simp only[Result.andThen]
 rw[Oper.upon_value]
 go_wp2
 go_ret
 exact⟨rfl,rfl⟩
theorem isNaN_any(x:Int)(w:World):Calls Tryz.prog 300 #[.int .i64 x] w fun e w'=>e = .returned (.bool false)∧w'=w:=by
 go_enter Tryz.func300,Tryz.ntmps300
 go_wp2_with fail
 go_ret
 exact⟨rfl,rfl⟩
theorem cmp_Compare(x y:Int)(w:World):
  Calls Tryz.prog 234 #[.int .i64 x,.int .i64 y] w fun e w'=>e = .returned (.int .i64 (cmpI x y))∧w'=w:=by
 rcases Bool.eq_false_or_eq_true (decide (x<y)) with t1|t1 <;> rcases Bool.eq_false_or_eq_true (decide (y<x)) with t2|t2
 all_goals
  go_enter Tryz.func234,Tryz.ntmps234
  go_wp2_with fail
  refine(isNaN_any x w).mono ?_
  rintro e w1 ⟨rfl,rfl⟩
  go_wp2_with fail
  refine(isNaN_any y _).mono ?_
  rintro e w1 ⟨rfl,rfl⟩
  go_wp2_with fail
  go_ret
  have u1:=t1
  have u2:=t2
  simp only[decide_eq_true_eq,decide_eq_false_iff_not] at u1 u2
  refine⟨?_,rfl⟩
  unfold cmpI
  simp[u1,u2]
end
section
set_option maxRecDepth 100000
open Go.RowKit
def idxS(l:List (List Int×Int)):(List Int→Option Int)×Nat:=l.foldl (fun s p=>(putF s.1 p.1 p.2,putC s.1 p.1 s.2)) (fun _=>none,0)
theorem idxS_snoc(l:List (List Int×Int))(k:Nat)(h:k<l.length):idxS (l.take (k+1))=(putF (idxS (l.take k)).1 l[k].1 l[k].2,putC (idxS (l.take k)).1 l[k].1 (idxS (l.take k)).2):=by
 unfold idxS
 rw[List.take_succ_eq_append_getElem h,List.foldl_append]
 rfl
attribute [irreducible] idxS
theorem new_any(v:Value)(l:List (List Int×Int))(w:World)(hs:Sn w 33 v l.length (l.flatMap entP))(hok:∀ p∈l,EntOk p)(hl:l.length≤1000):
  Calls Tryz.prog 150 #[v] w fun e w'=>∃ g b,e = .returned (.pointer (some ⟨g,0,none⟩))∧IX w' g b l.length (idxS l).1 (idxS l).2∧w.heap.size≤g∧w.heap.size≤b∧Below w.heap.size w w':=by
 obtain⟨A,cap,rfl,hcap,_,_⟩:=id hs
 have HS:=Lib.hid hs
 have HOK:=Lib.hid hok
 clear hs hok
 have hmk:∀ w:World,(Instr.makeMap 292 none).run Tryz.prog w = .ok (.map (some w.heap.size)) (w.alloc (.map #[] 0)):=fun w=>run_makeMap _ w
 go_enter Tryz.func150,Tryz.ntmps150
 go_wp2_with fail
 clear hmk
 go_loopw [11] (fun i wr=>∃ k:Nat,k≤l.length∧i = .int .i64 k∧IX wr (w.heap.size+1) w.heap.size k (idxS (l.take k)).1 (idxS (l.take k)).2∧Below w.heap.size w wr) (fun i _=>l.length-(intOf i).toNat)
 case atStart=>
  refine⟨0,Nat.zero_le _,rfl,⟨?_,by omega,?_⟩,(by repeat (first|exact Below.refl _ _|assumption|refine bdrewN ?_ _|refine Below.setCell ?_ (by first|exact Nat.le_refl _|assumption|omega|(simp <;> omega)) _|refine Below.alloc ?_ (by first|exact Nat.le_refl _|assumption|omega|(simp <;> omega)) _))⟩
  ·exact(Blk.newAt (w.alloc (.map #[] 0)) 294 #[.map (some w.heap.size)] (w.heap.size+1) (by simp)).cell 0
  ·unfold idxS
   exact(DM.made w).keep ((Below.refl _ _).alloc (Nat.le_refl _) _)
 case round=>
  obtain⟨k,hk,rfl,hX,hb⟩:=hrel
  by_cases hlt:k<l.length
  ·obtain⟨b,off,rfl,hr⟩:=at_elem entP EntOk 33 entP_length (HS.below hb) HOK.out k hlt
   have hr:wr.rangeAt b (off+k*33) (entP l[k]):=hr
   have hpk:=HOK.out l[k] (List.getElem_mem hlt)
   have hlen:=entP_length l[k] hpk
   have h1:(entP l[k]).toArray.all (·.oneCell')=true:=entC_one l[k].1 l[k].2
   have hsnoc:=Lib.hid (idxS_snoc l k hlt)
   have hsz:=hb.size
   have hXlt:=hX.2.2.lt
   have hi0:(0:Int)≤k:=by omega
   have hi1:(k:Int)<l.length:=by omega
   go_wp2_with (first
    | (refine ld 172 _ rfl rfl rfl hr Tryz.underlying172 rfl (by rw[hlen];kernel_rfl) ?_)
    | (refine stNew 172 (.tmp 5) (.tmp 14) rfl rfl rfl rfl (by simp only[List.size_toArray,hlen];kernel_rfl) (by simp only[List.size_toArray,hlen] <;> rfl) h1 ?_;intro w2 hblk hb2 hsz2;have hr2:=Blk.range hblk;rw[List.toList_toArray] at hr2)
    | (refine ld 172 _ rfl rfl rfl hr2 Tryz.underlying172 rfl (by rw[hlen];kernel_rfl) ?_))
   refine(put_any _ _ k _ _ l[k].1 l[k].2 w2 (hX.keep hb2) hpk.dig hpk.exp (by unfold maxLen;omega)).mono ?_
   rintro e w3 ⟨rfl,hX3,hoff⟩
   go_wp2_with fail
   refine⟨⟨k+1,by omega,by go_num,?_,(bstep hb hb2).trans (hoff.below (Nat.le_refl _) (by omega))⟩,by simp[intOf];omega⟩
   rw[hsnoc.out]
   exact hX3
  ·obtain rfl:k=l.length:=by omega
   rw[List.take_length] at hX
   go_wp2_with fail
   go_ret
   exact⟨_,_,rfl,hX,Nat.le_succ _,Nat.le_refl _,hb⟩
end
section
set_option maxRecDepth 100000
theorem cmpI_neg(x y:Int):cmpI y x = -cmpI x y:=by
 unfold cmpI
 split <;> split <;> omega
theorem cmpI_cases(x y:Int):cmpI x y = -1∧x<y∨cmpI x y=0∧x=y∨cmpI x y=1∧y<x:=by
 unfold cmpI
 split
 ·exact .inl ⟨rfl,by assumption⟩
 ·split
  ·exact .inr (.inr ⟨rfl,by assumption⟩)
  ·exact .inr (.inl ⟨rfl,by omega⟩)
theorem cmpD_neg:∀ x y:List Int,cmpD y x = -cmpD x y
 | [],[]=>rfl
 | [],_ :: _=>rfl
 | _ :: _,[]=>rfl
 | a :: x,b :: y=>by
  have ih:=cmpD_neg x y
  simp only[cmpD]
  split
  ·rw[if_neg (by omega)]
  ·split
   ·rfl
   ·exact ih
theorem cmpD_zero:∀ x y:List Int,cmpD x y=0→x=y
 | [],[],_=>rfl
 | [],_ :: _,h=>by simp[cmpD] at h
 | _ :: _,[],h=>by simp[cmpD] at h
 | a :: x,b :: y,h=>by
  simp only[cmpD] at h
  split at h
  ·omega
  ·split at h
   ·omega
   ·rw[cmpD_zero x y h,show a=b by omega]
theorem cmpD_self:∀ x:List Int,cmpD x x=0
 | []=>rfl
 | a :: x=>by
  simp only[cmpD]
  rw[if_neg (by omega),if_neg (by omega)]
  exact cmpD_self x
theorem cmpD_trans:∀ x y z:List Int,cmpD x y≤0→cmpD y z≤0→cmpD x z≤0
 | [],[],[],_,_=>by simp[cmpD]
 | [],_ :: _,[],_,_=>by simp[cmpD]
 | [],_,_ :: _,_,_=>by simp[cmpD]
 | _ :: _,[],_,h,_=>by simp[cmpD] at h
 | _ :: _,_ :: _,[],_,h=>by simp[cmpD] at h
 | a :: x,b :: y,c :: z,h,h'=>by
  have ih:=cmpD_trans x y z
  simp only[cmpD] at h h' ⊢
  split at h
  ·split at h'
   ·rw[if_pos (by omega)];omega
   ·split at h'
    ·omega
    ·rw[if_pos (by omega)];omega
  ·split at h
   ·omega
   ·split at h'
    ·rw[if_pos (by omega)];omega
    ·split at h'
     ·omega
     ·rw[if_neg (by omega),if_neg (by omega)]
      exact ih h h'
theorem cmpE_neg(p q:List Int×Int):cmpE q p = -cmpE p q:=by
 unfold cmpE
 rw[cmpI_neg p.2 q.2]
 have:=cmpI_cases p.2 q.2
 by_cases h:cmpI p.2 q.2=0
 ·rw[h,if_neg (by simp),if_neg (by simp)]
  exact cmpD_neg _ _
 ·rw[if_pos (by omega),if_pos h]
theorem cmpE_zero(p q:List Int×Int):cmpE p q=0 ↔ p=q:=by
 constructor
 ·intro h
  unfold cmpE at h
  rcases cmpI_cases p.2 q.2 with ⟨e,_⟩|⟨e,h2⟩|⟨e,_⟩
  ·rw[e] at h;simp at h
  ·rw[e,if_neg (by simp)] at h
   exact Prod.ext (cmpD_zero _ _ h) h2
  ·rw[e] at h;simp at h
 ·rintro rfl
  unfold cmpE
  have:cmpI p.2 p.2=0:=by unfold cmpI;simp
  rw[this,if_neg (by simp)]
  exact cmpD_self _
theorem cmpE_trans(p q r:List Int×Int)(h:cmpE p q≤0)(h':cmpE q r≤0):cmpE p r≤0:=by
 unfold cmpE at h h' ⊢
 have t:=cmpD_trans p.1 q.1 r.1
 have c1:=cmpI_cases p.2 q.2
 have c2:=cmpI_cases q.2 r.2
 have c3:=cmpI_cases p.2 r.2
 split at h <;> split at h' <;> split <;> omega
set_option maxRecDepth 100000
theorem idxS_def(l:List (List Int×Int)):idxS l=l.foldl (fun s p=>(putF s.1 p.1 p.2,putC s.1 p.1 s.2)) (fun _=>none,0):=by unfold idxS;rfl
theorem sorted_unique:∀(L M:List (List Int×Int)),L.Pairwise (fun p q=>cmpE p q<0)→M.Pairwise (fun p q=>cmpE p q<0)→(∀ p,p∈L ↔ p∈M)→L=M
 | [],[],_,_,_=>rfl
 | [],q :: M,_,_,h=>by have:=(h q).2 (by simp);simp at this
 | p :: L,[],_,_,h=>by have:=(h p).1 (by simp);simp at this
 | p :: L,q :: M,hL,hM,h=>by
  rw[List.pairwise_cons] at hL hM
  have hpq:p=q:=by
   have h1:=(h p).1 (by simp)
   have h2:=(h q).2 (by simp)
   rw[List.mem_cons] at h1 h2
   rcases h1 with h1|h1
   ·exact h1
   ·rcases h2 with h2|h2
    ·exact h2.symm
    ·have a1:=hM.1 p h1
     have a2:=hL.1 q h2
     have:=cmpE_neg p q
     omega
  subst hpq
  have hself:cmpE p p=0:=(cmpE_zero p p).2 rfl
  rw[sorted_unique L M hL.2 hM.2 fun r=>?_]
  constructor
  ·intro hr
   have h1:=(h r).1 (by simp[hr])
   rw[List.mem_cons] at h1
   rcases h1 with rfl|h1
   ·have:=hL.1 _ hr;omega
   ·exact h1
  ·intro hr
   have h1:=(h r).2 (by simp[hr])
   rw[List.mem_cons] at h1
   rcases h1 with rfl|h1
   ·have:=hM.1 _ hr;omega
   ·exact h1
set_option maxRecDepth 100000
open Go.RowKit
theorem DM.dropped{w:World}{b n c:Nat}{f:List Int→Option Int}(h:DM w b n f c){d:List Int}(hd:DigOk d):∃ w' c',DM w' b n (cut f d) c'∧c'+(if (f d).isSome then 1 else 0)=c:=by
 obtain⟨D,hown,hf⟩:=h
 obtain⟨w',_,h',_⟩:=hown.drop keyed Tryz.underlying292 (keyOf_mk hd) 0
 obtain⟨c',hf',e⟩:=hf.del (hown.tidy keyed) hd
 exact⟨w',c',⟨_,h',hf'⟩,e⟩
theorem DM.count(b n:Nat):∀(K:List (List Int)) (w:World) (f:List Int→Option Int) (c:Nat),DM w b n f c→(∀ d∈K,DigOk d)→K.Nodup→(∀ d,DigOk d→((f d).isSome=true ↔ d∈K))→c=K.length
 | [],w,f,c,h,_,_,hf=>h.zero fun d hd=>by
  cases h1:f d with
  | none=>rfl
  | some t=>
   have:=(hf d hd).1 (by rw[h1];rfl)
   simp at this
 | d :: K,w,f,c,h,hok,hnd,hf=>by
  rw[List.nodup_cons] at hnd
  have hd:=hok d (by simp)
  obtain⟨w',c',h',e⟩:=h.dropped hd
  rw[if_pos ((hf d hd).2 (by simp))] at e
  have:=DM.count b n K w' (cut f d) c' h' (fun x hx=>hok x (by simp[hx])) hnd.2 (fun x hx=>by
   unfold cut
   by_cases hxd:x=d
   ·subst hxd
    simp[hnd.1]
   ·rw[if_neg hxd,hf x hx]
    simp[hxd])
  simp only[List.length_cons]
  omega
structure Lists(f:List Int→Option Int)(L:List (List Int×Int)):Prop where
 mem:∀ p:List Int×Int,p∈L ↔ EntOk p∧f p.1=some p.2
 sorted:L.Pairwise (fun p q=>cmpE p q<0)
 exp:∀ d t,DigOk d→f d=some t→isI64 t
theorem liveF_some{f:List Int→Option Int}{now:Int}{d:List Int}{t:Int}(h:liveF f now d=some t):f d=some t:=by
 unfold liveF at h
 cases hf:f d with
 | none=>rw[hf] at h;cases h
 | some s=>
  rw[hf] at h
  simp only at h
  split at h
  ·cases h
  ·exact h
theorem Lists.nodup{f:List Int→Option Int}{L:List (List Int×Int)}(h:Lists f L):(L.map (·.1)).Nodup:=by
 rw[List.nodup_iff_pairwise_ne,List.pairwise_map]
 have hs:L.Pairwise (fun p q=>p≠q):=h.sorted.imp fun {p q} hpq e=>by
  subst e
  have:=(cmpE_zero p p).2 rfl
  omega
 refine List.Pairwise.imp_of_mem (fun {p q} hp hq hne e=>?_) hs
 have h1:=((h.mem p).1 hp).2
 have h2:=((h.mem q).1 hq).2
 rw[e,h2] at h1
 injection h1 with h1
 exact hne (Prod.ext e h1.symm)
theorem Lists.count{f:List Int→Option Int}{L:List (List Int×Int)}(h:Lists f L){w:World}{b n c:Nat}(hm:DM w b n f c):c=L.length:=by
 have:=DM.count b n (L.map (·.1)) w f c hm (fun d hd=>by
  obtain⟨p,hp,rfl⟩:=List.mem_map.1 hd
  exact((h.mem p).1 hp).1.dig) h.nodup (fun d hd=>by
  constructor
  ·intro hs
   obtain⟨t,ht⟩:=Option.isSome_iff_exists.1 hs
   exact List.mem_map.2 ⟨(d,t),(h.mem _).2 ⟨⟨hd,hm.i64 hd ht⟩,ht⟩,rfl⟩
  ·intro hs
   obtain⟨p,hp,rfl⟩:=List.mem_map.1 hs
   rw[((h.mem p).1 hp).2]
   rfl)
 rw[this,List.length_map]
theorem Lists.eq{f:List Int→Option Int}{L M:List (List Int×Int)}(h:Lists f L)(h':Lists f M):L=M:=
 sorted_unique L M h.sorted h'.sorted fun p=>by rw[h.mem,h'.mem]
def liveL(l:List (List Int×Int))(now:Int):List (List Int×Int):=l.filter fun p=>decide (now≤p.2)
theorem Lists.live{f:List Int→Option Int}{L:List (List Int×Int)}(h:Lists f L)(now:Int):Lists (liveF f now) (liveL L now) where
 mem p:=by
  unfold liveL
  rw[List.mem_filter,h.mem p]
  unfold liveF
  simp only[decide_eq_true_eq]
  cases hf:f p.1 with
  | none=>simp
  | some t=>
   simp only[Option.some.injEq]
   constructor
   ·rintro⟨⟨h1,h2⟩,h3⟩
    subst h2
    exact⟨h1,by rw[if_neg (by omega)]⟩
   ·rintro⟨h1,h2⟩
    by_cases ht:t<now
    ·rw[if_pos ht] at h2;cases h2
    ·rw[if_neg ht] at h2
     injection h2 with h2
     exact⟨⟨h1,h2⟩,by omega⟩
 sorted:=h.sorted.sublist List.filter_sublist
 exp d t hd ht:=h.exp d t hd (liveF_some ht)
theorem Lists.of_live{f:List Int→Option Int}{now:Int}{L:List (List Int×Int)}(h:∀ p:List Int×Int,p∈L ↔ EntOk p∧f p.1=some p.2∧now≤p.2)(hs:L.Pairwise (fun p q=>cmpE p q<0))(hi:∀ d t,DigOk d→f d=some t→isI64 t):Lists (liveF f now) L where
 mem p:=by
  rw[h p]
  unfold liveF
  cases hf:f p.1 with
  | none=>simp
  | some t=>
   simp only[Option.some.injEq]
   constructor
   ·rintro⟨h1,h2,h3⟩
    subst h2
    exact⟨h1,by rw[if_neg (by omega)]⟩
   ·rintro⟨h1,h2⟩
    by_cases ht:t<now
    ·rw[if_pos ht] at h2;cases h2
    ·rw[if_neg ht] at h2
     injection h2 with h2
     exact⟨h1,h2,by omega⟩
 sorted:=hs
 exp d t hd ht:=hi d t hd (liveF_some ht)
theorem Lists.congr{f g:List Int→Option Int}{L:List (List Int×Int)}(h:Lists f L)(e:∀ d,DigOk d→f d=g d):Lists g L where
 mem p:=by
  rw[h.mem p]
  constructor
  ·rintro⟨h1,h2⟩;exact⟨h1,by rw[← e _ h1.dig];exact h2⟩
  ·rintro⟨h1,h2⟩;exact⟨h1,by rw[e _ h1.dig];exact h2⟩
 sorted:=h.sorted
 exp d t hd ht:=h.exp d t hd (by rw[e d hd];exact ht)
end
section
set_option maxRecDepth 100000
end
section
open Go.RowKit
section
variable {P : Program} {w : World}
end
end
section
set_option maxRecDepth 100000
open Go.RowKit
theorem tEntI:SlT Tryz.prog 52 172 33 40:=SlT.mk' Tryz.underlying52 (z:=.agg (entC (List.replicate 32 0) 0).toArray) (by kernel_rfl) rfl (by decide)
end
section
set_option maxRecDepth 100000
def putStep(e:List Int×Int)(s:List (List Int×Int)×Bool)(q:List Int×Int):List (List Int×Int)×Bool:=
 let s':=if !s.2 && decide (cmpE e q<0) then (s.1++[e],true) else s
 (if decide (q.1=e.1) then s'.1 else s'.1++[q],s'.2)
def blocks(e q:List Int×Int):Bool:=decide (q.1=e.1) && decide (e.2≤q.2)
def putS(L:List (List Int×Int))(e:List Int×Int):List (List Int×Int)×Bool:=L.foldl (putStep e) ([],false)
def refPut(L:List (List Int×Int))(e:List Int×Int):List (List Int×Int)×Bool:=
 if L.any (blocks e) then (L,false) else (if (putS L e).2 then (putS L e).1 else (putS L e).1++[e],true)
theorem putS_len(L:List (List Int×Int))(e:List Int×Int):(putS L e).1.length≤L.length+1∧((putS L e).2=false→(putS L e).1.length≤L.length):=by
 unfold putS
 have key:∀(L:List (List Int×Int)) (s:List (List Int×Int)×Bool) (n:Nat),s.1.length≤n+1→(s.2=false→s.1.length≤n)→(L.foldl (putStep e) s).1.length≤n+L.length+1∧((L.foldl (putStep e) s).2=false→(L.foldl (putStep e) s).1.length≤n+L.length):=by
  intro L
  induction L with
  | nil=>intro s n h h';exact⟨by simpa using h,by simpa using h'⟩
  | cons q L ih=>
   intro s n h h'
   rw[List.foldl_cons]
   have:=ih (putStep e s q) (n+1) (by
    obtain⟨o,p⟩:=s
    unfold putStep
    cases p <;> (simp only[Bool.not_true,Bool.not_false,Bool.false_and,Bool.true_and] at *;repeat' split) <;> simp at * <;> omega) (by
    obtain⟨o,p⟩:=s
    unfold putStep
    cases p <;> (simp only[Bool.not_true,Bool.not_false,Bool.false_and,Bool.true_and] at *;repeat' split) <;> simp at * <;> omega)
   simp only[List.length_cons]
   exact⟨by omega,fun hf=>by have:=this.2 hf;omega⟩
 have:=key L ([],false) 0 (by simp) (by simp)
 simpa using this
theorem refPut_len(L:List (List Int×Int))(e:List Int×Int):(refPut L e).1.length≤L.length+1:=by
 have:=putS_len L e
 unfold refPut
 split
 ·simp
 ·split
  ·exact this.1
  ·rename_i h
   have:=this.2 (by simpa using h)
   simp;omega
theorem cmpE_lt_trans{p q r:List Int×Int}(h:cmpE p q<0)(h':cmpE q r<0):cmpE p r<0:=by
 have h3:=cmpE_trans p q r (by omega) (by omega)
 have hne:cmpE p r≠0:=fun e=>by
  have e':=(cmpE_zero _ _).1 e
  subst e'
  have:=cmpE_neg p q
  omega
 omega
theorem put_go(e:List Int×Int):∀(rest out:List (List Int×Int)) (placed:Bool),rest.Pairwise (fun p q=>cmpE p q<0)→out.Pairwise (fun p q=>cmpE p q<0)→(∀ x∈out,∀ y∈rest,cmpE x y<0)→(placed=false→∀ x∈out,cmpE x e<0) →
  (∀ q∈rest,q.1=e.1→q.2<e.2)→(placed=true→∀ q∈rest,cmpE e q<0) →
  let s:=rest.foldl (putStep e) (out,placed)
  let r:=if s.2 then s.1 else s.1++[e]
  r.Pairwise (fun p q=>cmpE p q<0)∧∀ x,x∈r ↔ x∈out∨(placed=false∧x=e)∨(x∈rest∧x.1≠e.1)
 | [],out,placed,_,ho,_,hp,_,_=>by
  cases placed with
  | true=>simpa using ho
  | false=>
   simp only[List.foldl_nil,Bool.false_eq_true,if_false]
   refine⟨List.pairwise_append.2 ⟨ho,by simp,fun x hx y hy=>?_⟩,fun x=>by simp⟩
   obtain rfl:y=e:=by simpa using hy
   exact hp rfl x hx
 | q :: rest,out,placed,hr,ho,hor,hp,hb,hpl=>by
  rw[List.foldl_cons]
  rw[List.pairwise_cons] at hr
  have hqd:q.1=e.1→cmpE q e<0:=fun hd=>by
   have:=hb q (by simp) hd
   unfold cmpE cmpI
   simp[this]
  -- the state behind q
  by_cases hplace:placed=false∧cmpE e q<0
  ·obtain⟨rfl,hlt⟩:=hplace
   have hne:¬q.1=e.1:=fun hd=>by
    have h1:=hqd hd
    have:=cmpE_neg q e
    omega
   have hst:putStep e (out,false) q=(out++[e]++[q],true):=by
    unfold putStep
    simp[hlt,hne]
   rw[hst]
   have hall:∀ y∈rest,cmpE e y<0:=fun y hy=>cmpE_lt_trans hlt (hr.1 y hy)
   have:=put_go e rest (out++[e]++[q]) true hr.2 (by
     refine List.pairwise_append.2 ⟨List.pairwise_append.2 ⟨ho,by simp,fun x hx y hy=>?_⟩,by simp,fun x hx y hy=>?_⟩
     ·obtain rfl:y=e:=by simpa using hy
      exact hp rfl x hx
     ·obtain rfl:y=q:=by simpa using hy
      rcases List.mem_append.1 hx with hx|hx
      ·exact hor x hx y (by simp)
      ·obtain rfl:x=e:=by simpa using hx
       exact hlt) (fun x hx y hy=>by
     rcases List.mem_append.1 hx with hx|hx
     ·rcases List.mem_append.1 hx with hx|hx
      ·exact hor x hx y (by simp[hy])
      ·obtain rfl:x=e:=by simpa using hx
       exact hall y hy
     ·obtain rfl:x=q:=by simpa using hx
      exact hr.1 y hy) (fun h=>by simp at h) (fun x hx=>hb x (by simp[hx])) (fun _=>hall)
   refine⟨this.1,fun x=>(this.2 x).trans ?_⟩
   simp only[List.mem_append,List.mem_cons,List.not_mem_nil,or_false,Bool.true_eq_false,false_and,false_or,true_and]
   constructor
   ·rintro(((h|h)|h)|⟨h,h'⟩)
    ·exact .inl h
    ·exact .inr (.inl h)
    ·subst h;exact .inr (.inr ⟨.inl rfl,hne⟩)
    ·exact .inr (.inr ⟨.inr h,h'⟩)
   ·rintro(h|h|⟨h|h,h'⟩)
    ·exact .inl (.inl (.inl h))
    ·exact .inl (.inl (.inr h))
    ·exact .inl (.inr h)
    ·exact .inr ⟨h,h'⟩
  ·have hnp:((!placed) && decide (cmpE e q<0))=false:=by
    cases placed <;> simp at hplace ⊢
    exact hplace
   have hqe:placed=false→q.1≠e.1→cmpE q e<0:=fun h1 h2=>by
    have h3:¬cmpE e q<0:=fun h=>hplace ⟨h1,h⟩
    have h4:=cmpE_neg q e
    have h5:cmpE q e≠0:=fun h=>h2 (by rw[(cmpE_zero q e).1 h])
    omega
   by_cases hd:q.1=e.1
   ·have hst:putStep e (out,placed) q=(out,placed):=by
     unfold putStep
     simp[hnp,hd]
    rw[hst]
    have:=put_go e rest out placed hr.2 ho (fun x hx y hy=>hor x hx y (by simp[hy])) hp (fun x hx=>hb x (by simp[hx])) (fun h y hy=>hpl h y (by simp[hy]))
    refine⟨this.1,fun x=>(this.2 x).trans ?_⟩
    rw[List.mem_cons]
    constructor
    ·rintro(h|h|⟨h,h'⟩)
     ·exact .inl h
     ·exact .inr (.inl h)
     ·exact .inr (.inr ⟨.inr h,h'⟩)
    ·rintro(h|h|⟨h|h,h'⟩)
     ·exact .inl h
     ·exact .inr (.inl h)
     ·subst h;exact absurd hd h'
     ·exact .inr (.inr ⟨h,h'⟩)
   ·have hst:putStep e (out,placed) q=(out++[q],placed):=by
     unfold putStep
     simp[hnp,hd]
    rw[hst]
    have:=put_go e rest (out++[q]) placed hr.2 (by
      refine List.pairwise_append.2 ⟨ho,by simp,fun x hx y hy=>?_⟩
      obtain rfl:y=q:=by simpa using hy
      exact hor x hx y (by simp)) (fun x hx y hy=>by
      rcases List.mem_append.1 hx with hx|hx
      ·exact hor x hx y (by simp[hy])
      ·obtain rfl:x=q:=by simpa using hx
       exact hr.1 y hy) (fun h x hx=>by
      rcases List.mem_append.1 hx with hx|hx
      ·exact hp h x hx
      ·obtain rfl:x=q:=by simpa using hx
       exact hqe h hd) (fun x hx=>hb x (by simp[hx])) (fun h y hy=>hpl h y (by simp[hy]))
    refine⟨this.1,fun x=>(this.2 x).trans ?_⟩
    simp only[List.mem_append,List.mem_cons,List.not_mem_nil,or_false]
    constructor
    ·rintro((h|h)|h|⟨h,h'⟩)
     ·exact .inl h
     ·subst h;exact .inr (.inr ⟨.inl rfl,hd⟩)
     ·exact .inr (.inl h)
     ·exact .inr (.inr ⟨.inr h,h'⟩)
    ·rintro(h|h|⟨h|h,h'⟩)
     ·exact .inl (.inl h)
     ·exact .inr (.inl h)
     ·exact .inl (.inr h)
     ·exact .inr (.inr ⟨h,h'⟩)
theorem refPut_ok{f:List Int→Option Int}{L:List (List Int×Int)}{e:List Int×Int}(h:Lists f L)(he:EntOk e):Lists (putF f e.1 e.2) (refPut L e).1∧(refPut L e).2 = !old? f e.1 e.2:=by
 have hany:L.any (blocks e)=old? f e.1 e.2:=by
  cases h1:f e.1 with
  | none=>
   have:old? f e.1 e.2=false:=by unfold old?;simp[h1]
   rw[this,List.any_eq_false]
   intro q hq hbl
   unfold blocks at hbl
   simp only[Bool.and_eq_true,decide_eq_true_eq] at hbl
   have:=((h.mem q).1 hq).2
   rw[hbl.1,h1] at this
   cases this
  | some t=>
   unfold old?
   rw[h1]
   simp only[Option.isSome_some,Bool.true_and,Option.getD_some]
   rw[Bool.eq_iff_iff,List.any_eq_true,decide_eq_true_eq]
   constructor
   ·rintro⟨q,hq,hbl⟩
    unfold blocks at hbl
    simp only[Bool.and_eq_true,decide_eq_true_eq] at hbl
    have:=((h.mem q).1 hq).2
    rw[hbl.1,h1] at this
    injection this with this
    omega
   ·intro hle
    exact⟨(e.1,t),(h.mem _).2 ⟨⟨he.dig,h.exp _ _ he.dig h1⟩,h1⟩,by simp[blocks,hle]⟩
 rcases Bool.eq_false_or_eq_true (old? f e.1 e.2) with ho|ho
 ·have e1:refPut L e=(L,false):=by unfold refPut;rw[hany,ho];rfl
  have e2:putF f e.1 e.2=f:=by unfold putF;rw[if_pos ho]
  rw[e1,e2,ho]
  exact⟨h,rfl⟩
 ·have e1:refPut L e=(if (putS L e).2 then (putS L e).1 else (putS L e).1++[e],true):=by unfold refPut;rw[hany,ho];rfl
  have e2:putF f e.1 e.2=upd f e.1 e.2:=by unfold putF;rw[ho];rfl
  rw[e1,e2,ho]
  refine⟨?_,rfl⟩
  have hb:∀ q∈L,q.1=e.1→q.2<e.2:=fun q hq hd=>by
   have h1:=List.any_eq_false.1 (hany.trans ho) q hq
   unfold blocks at h1
   simp only[Bool.and_eq_true,decide_eq_true_eq,not_and] at h1
   have:=h1 hd
   omega
  have key:=put_go e L [] false h.sorted (by simp) (by simp) (by simp) hb (by simp)
  refine⟨fun p=>?_,key.1,fun d t hd ht=>?_⟩
  ·refine(key.2 p).trans ?_
   rw[h.mem p]
   unfold upd
   by_cases hp:p.1=e.1
   ·rw[if_pos hp]
    constructor
    ·rintro(h1|⟨_,h1⟩|⟨_,h1⟩)
     ·simp at h1
     ·subst h1;exact⟨he,rfl⟩
     ·exact absurd hp h1
    ·rintro⟨_,h1⟩
     injection h1 with h1
     exact .inr (.inl ⟨rfl,Prod.ext hp h1.symm⟩)
   ·rw[if_neg hp]
    constructor
    ·rintro(h1|⟨_,h1⟩|⟨h1,_⟩)
     ·simp at h1
     ·subst h1;exact absurd rfl hp
     ·exact h1
    ·intro h1
     exact .inr (.inr ⟨h1,hp⟩)
  ·unfold upd at ht
   split at ht
   ·injection ht with ht
    subst ht
    exact he.exp
   ·exact h.exp d t hd ht
theorem Lists.nil:Lists (fun _=>none) []:=⟨fun p=>by simp,List.Pairwise.nil,fun d t _ h=>by cases h⟩
def refOf(l:List (List Int×Int)):List (List Int×Int):=l.foldl (fun o e=>(refPut o e).1) []
theorem refOf_snoc(l:List (List Int×Int))(k:Nat)(h:k<l.length):refOf (l.take (k+1))=(refPut (refOf (l.take k)) l[k]).1:=by
 unfold refOf
 rw[List.take_succ_eq_append_getElem h,List.foldl_append]
 rfl
theorem refOf_ok:∀ l:List (List Int×Int),(∀ p∈l,EntOk p)→Lists (idxS l).1 (refOf l):=by
 intro l hok
 have key:∀ k,k≤l.length→Lists (idxS (l.take k)).1 (refOf (l.take k))∧(refOf (l.take k)).length≤k:=by
  intro k
  induction k with
  | zero=>
   intro _
   rw[idxS_def]
   exact⟨Lists.nil,Nat.le_refl _⟩
  | succ k ih=>
   intro hk
   have hlt:k<l.length:=by omega
   obtain⟨h1,h2⟩:=ih (by omega)
   rw[idxS_snoc l k hlt,refOf_snoc l k hlt]
   have:=refPut_len (refOf (l.take k)) l[k]
   exact⟨(refPut_ok h1 (hok _ (List.getElem_mem hlt))).1,by omega⟩
 have:=(key l.length (Nat.le_refl _)).1
 rwa [List.take_length] at this
set_option maxRecDepth 100000
open Go.RowKit
attribute [local irreducible] wpQuiet
end
end Go.Proofs.YtiaigidbcljblaaGreatDoor
