import Derived.Test.YtiaigidbcljblaaGreatDoorME5
import Derived.Test.YtiaigidbcljblaaGreatDoorME6
import Derived.Test.YtiaigidbcljblaaGreatDoorME1
import Derived.Maps.OwnSet
import Derived.Test.YtiaigidbcljblaaGreatDoorME2
set_option linter.unusedSimpArgs false
set_option maxRecDepth 100000
set_option maxHeartbeats 40000000
namespace Go.Proofs.YtiaigidbcljblaaGreatDoor
section
open Go.RowKit
attribute [local irreducible] wpQuiet wpAnyH
def prsH(s:List Int):Option Nat:=match prs s with|some (g,p)=>if p=toll then some g else none|none=>none
theorem toll_sn(W:World):Sn (W.alloc (.cells #[.int .u8 84,.int .u8 79,.int .u8 76,.int .u8 76] 5 (4,5))) 1 (.slice (some ⟨W.heap.size,0,none⟩) 4 4) toll.length (u8s toll):=by
 refine⟨_,4,rfl,Nat.le_refl _,rfl,fun _=>⟨_,0,rfl,fun j u hj=>?_⟩⟩
 have hh:=heap_alloc_new W (.cells #[.int .u8 84,.int .u8 79,.int .u8 76,.int .u8 76] 5 (4,5))
 rw[cell_of_row _ _ _ _ _ _ hh,Nat.zero_add]
 simpa [toll,u8s] using hj
theorem toll_bys:Bys toll:=fun b hb=>by simp only[toll,List.mem_cons,List.not_mem_nil,or_false] at hb;omega
theorem prs_bys{s:List Int}(hb:Bys s){g:Nat}{p:List Int}(h:prs s=some (g,p)):Bys p:=by
 unfold prs at h
 split at h
 ·cases h
 ·split at h
  ·cases h
  ·split at h
   ·cases h
   ·injection h with h
    injection h with _ h
    subst h
    exact fun b hb'=>hb b (List.mem_of_mem_drop (List.mem_of_mem_take hb'))
theorem frame_parse_header(s:List Int)(w:World)(hl:s.length=64)(hb:Bys s):
  Calls Tryz.prog 310 #[.agg (u8s s).toArray] w fun e w'=>Below w.heap.size w w' ∧
   ((prsH s=none∧e = .returned (.tuple #[.int .u32 0,.bool false]))∨(∃ g,prsH s=some g∧e = .returned (.tuple #[.int .u32 g,.bool true]))):=by
 have hul:(u8s s).length=64:=by rw[u8s_length,hl]
 have hB1:=Blk.new w 243 (u8s s).toArray
 have hr1:=hB1.range
 rw[List.toList_toArray] at hr1
 have HR1:=Lib.hid hr1
 have hb1:Below w.heap.size w (w.alloc (.cells (u8s s).toArray 243)):=(Below.refl _ w).alloc (Nat.le_refl _) _
 clear hB1 hr1
 go_enter Tryz.func310,Tryz.ntmps310
 go_wp2_with (refine ld 243 _ rfl rfl rfl HR1.out Tryz.underlying243 rfl (by rw[hul];kernel_rfl) ?_)
 refine(frame_parse s _ hl hb).mono ?_
 rintro e w2 ⟨hb2,⟨hn,rfl⟩|⟨g,p,v,hp,rfl,hs⟩⟩
 ·have hb20:=bstep hb1 hb2
  have HN:Hid (prsH s=none):=Lib.hid (by unfold prsH;rw[hn])
  clear hn
  go_wp2_with fail
  go_ret2
  exact⟨hb20,.inl ⟨HN.out,rfl⟩⟩
 ·have hb20:=bstep hb1 hb2
  have HP:=Lib.hid hp
  have HS:=Lib.hid (hs.alloc (.cells #[.int .u8 84,.int .u8 79,.int .u8 76,.int .u8 76] 5 (4,5)))
  have HBP:=Lib.hid (prs_bys hb hp)
  have HT:=Lib.hid (toll_sn w2)
  have hcv:=Lib.run_convert_bytes_const (P:=Tryz.prog) w2 68 5 #[.int .u8 84,.int .u8 79,.int .u8 76,.int .u8 76] 4 4 Tryz.underlying68 Tryz.underlying5
  have HBF:Hid (Below w.heap.size w (w2.alloc (.cells #[.int .u8 84,.int .u8 79,.int .u8 76,.int .u8 76] 5 (4,5)))):=Lib.hid (hb20.alloc hb20.size _)
  clear hp hs hb2 hb20 hb1
  go_wp2_with fail
  refine(bytes_equal _ _ p toll _ HS.out HT.out HBP.out toll_bys).mono ?_
  rintro e w3 ⟨rfl,hw3⟩
  have HW:Hid (Below w.heap.size w w3):=Lib.hid (by rw[hw3];exact HBF.out)
  clear hw3
  rcases Bool.eq_false_or_eq_true (decide (p=toll)) with t1|t1
  ·rw[t1]
   go_wp2_with fail
   go_ret2
   exact⟨HW.out,.inr ⟨g,by unfold prsH;rw[HP.out];simp only;rw[if_pos (of_decide_eq_true t1)],rfl⟩⟩
  ·rw[t1]
   go_wp2_with fail
   go_ret2
   exact⟨HW.out,.inl ⟨by unfold prsH;rw[HP.out];simp only;rw[if_neg (of_decide_eq_false t1)],rfl⟩⟩
end
section
open Go.RowKit
def RU:Value→Option (DataW Value×List MemPlace):=fun v=>some (.held v,[])
theorem ikeyed:Maps.Keyed Tryz.prog 3:=Maps.int_keyed Tryz.underlying3
theorem ikey{k:Int}(h:isI64 k):keyOf Tryz.prog 3 (.int .i64 k)=some (.int .i64 k):=Maps.keyOf_int_mk Tryz.underlying3 (wf_i64 h)
def UFits(D:DataW Value)(f:Int→Option Value):Prop:=∀ k,isI64 k→match f k with
 | none=>Maps.has D (.int .i64 k)=false
 | some v=>Maps.has D (.int .i64 k)=true∧∀ z,D.atKey (.int .i64 k) z = .held v
def UM(w:World)(b n:Nat)(f:Int→Option Value):Prop:=∃ D,w.ownsMap Tryz.prog 3 RU b n D∧UFits D f
def uput(f:Int→Option Value)(k:Int)(v:Value):Int→Option Value:=fun x=>if x=k then some v else f x
def udel(f:Int→Option Value)(k:Int):Int→Option Value:=fun x=>if x=k then none else f x
theorem UM.lt{w:World}{b n:Nat}{f:Int→Option Value}(h:UM w b n f):b<w.heap.size:=by
 obtain⟨D,h,_⟩:=h
 exact h.lt
theorem UM.of_block{w w':World}{b n:Nat}{f:Int→Option Value}(h:UM w b n f)(e:w'.heap[b]? = w.heap[b]?):UM w' b n f:=by
 obtain⟨D,⟨es,clock,hb,r⟩,hf⟩:=h
 exact⟨D,⟨es,clock,e.trans hb,r⟩,hf⟩
theorem UM.keep{w w':World}{b n:Nat}{f:Int→Option Value}(h:UM w b n f)(hb:Below w.heap.size w w'):UM w' b n f:=h.of_block (hb.block b h.lt)
theorem UM.mono{w:World}{b n m:Nat}{f:Int→Option Value}(h:UM w b n f)(hm:n≤m):UM w b m f:=by
 obtain⟨D,h,hf⟩:=h
 exact⟨D,h.mono hm,hf⟩
theorem UM.made(w:World):UM (w.alloc (.map #[] 0)) w.heap.size 0 (fun _=>none):=
 ⟨.map [],World.ownsMap_made _ _ _ _,fun _ _=>rfl⟩
theorem UM.madeAt(w:World)(b:Nat)(hb:w.heap.size=b):UM (w.alloc (.map #[] 0)) b 0 (fun _=>none):=by
 subst hb;exact UM.made w
theorem UM.congr{w:World}{b n:Nat}{f f':Int→Option Value}(h:UM w b n f)(e:∀ k,isI64 k→f k=f' k):UM w b n f':=by
 obtain⟨D,h,hf⟩:=h
 exact⟨D,h,fun k hk=>by rw[← e k hk];exact hf k hk⟩
theorem UFits.has{D:DataW Value}{f:Int→Option Value}(h:UFits D f){k:Int}(hk:isI64 k):Maps.has D (.int .i64 k)=(f k).isSome:=by
 have:=h k hk
 cases hf:f k with
 | none=>rw[hf] at this;exact this
 | some v=>rw[hf] at this;exact this.1
theorem UFits.at{D:DataW Value}{f:Int→Option Value}(h:UFits D f){k:Int}(hk:isI64 k)(z:Value):D.atKey (.int .i64 k) (.held z) = .held ((f k).getD z):=by
 have:=h k hk
 cases hf:f k with
 | none=>rw[hf] at this;exact Maps.atKey_of_not_has this _
 | some v=>rw[hf] at this;exact this.2 _
section
variable {w : World} {b n : Nat} {f : Int → Option Value} {tM e : TypeId} (ht : Tryz.prog.underlying tM = some (.map 3 e))
include ht
theorem UM.look(h:UM w b n f){z:Value}(hz:(zeroValue e).run Tryz.prog w = .ok z w){k:Int}(hk:isI64 k):
  (Instr.lookup tM (.map (some b)) (.int .i64 k) true).run Tryz.prog w = .ok (.tuple #[(f k).getD z,.bool (f k).isSome]) w:=by
 obtain⟨D,hown,hf⟩:=h
 obtain⟨v,ps,hrun,hv⟩:=hown.look_ok ikeyed ht hz (zd:=.held z) (zp:=[]) rfl (ikey hk)
 rw[hf.has hk] at hrun
 rw[hf.at hk] at hv
 have hv:=congrArg (fun o:Option (DataW Value×List MemPlace)=>match o with|some (.held x,_)=>x|_=>undef) hv
 dsimp only [RU] at hv
 subst hv
 exact hrun
theorem UM.look1(h:UM w b n f){z:Value}(hz:(zeroValue e).run Tryz.prog w = .ok z w){k:Int}(hk:isI64 k):
  (Instr.lookup tM (.map (some b)) (.int .i64 k) false).run Tryz.prog w = .ok ((f k).getD z) w:=by
 obtain⟨D,hown,hf⟩:=h
 obtain⟨v,ps,hrun,hv⟩:=hown.lookup ikeyed ht hz (zd:=.held z) (zp:=[]) rfl (ikey hk)
 rw[hf.at hk] at hv
 have hv:=congrArg (fun o:Option (DataW Value×List MemPlace)=>match o with|some (.held x,_)=>x|_=>undef) hv
 dsimp only [RU] at hv
 subst hv
 exact hrun
theorem UM.put_run(h:UM w b n f){k:Int}(hk:isI64 k)(v:Value)(hn:n<maxLen):
  ∃ w',(Instr.mapUpdate tM (.map (some b)) (.int .i64 k) v).run Tryz.prog w = .ok () w'∧UM w' b (n+1) (uput f k v)∧w.mapTurned w' b:=by
 obtain⟨D,hown,hf⟩:=h
 obtain⟨w',hrun,h',hg'⟩:=hown.store ikeyed ht hn (ikey hk) (val:=v) (d:=.held v) (ps:=[]) rfl
 refine⟨w',hrun,⟨_,h',fun x hx=>?_⟩,hg'⟩
 unfold uput
 by_cases hxk:x=k
 ·subst hxk
  rw[if_pos rfl]
  exact⟨Maps.has_put_same hown.isMap (ikeyed.key (ikey hx)) _,fun z=>Maps.atKey_put_same hown.isMap (ikeyed.key (ikey hx)) _ z⟩
 ·rw[if_neg hxk]
  have hne:(Lit.int .i64 x)≠.int .i64 k:=fun e=>hxk (by injection e)
  have:=hf x hx
  cases hfx:f x with
  | none=>rw[hfx] at this;exact(Maps.has_put_other hne _).trans this
  | some t'=>
   rw[hfx] at this
   exact⟨(Maps.has_put_other hne _).trans this.1,fun z=>(Maps.atKey_put_other hne _ z).trans (this.2 z)⟩
theorem UM.del_run(h:UM w b n f){k:Int}(hk:isI64 k)(ty:TypeId):
  ∃ w',(Builtin.delete_ #[tM,3] ty #[.map (some b),.int .i64 k]).run Tryz.prog w = .ok (.tuple #[]) w'∧UM w' b n (udel f k)∧w.mapTurned w' b:=by
 obtain⟨D,hown,hf⟩:=h
 obtain⟨w',hrun,h',hg'⟩:=hown.drop ikeyed ht (ikey hk) ty
 refine⟨w',hrun,⟨_,h',fun x hx=>?_⟩,hg'⟩
 unfold udel
 by_cases hxk:x=k
 ·subst hxk
  rw[if_pos rfl]
  exact Maps.has_del_same
 ·rw[if_neg hxk]
  have hne:(Lit.int .i64 x)≠.int .i64 k:=fun e=>hxk (by injection e)
  have:=hf x hx
  cases hfx:f x with
  | none=>rw[hfx] at this;exact(Maps.has_del_other hne).trans this
  | some t'=>
   rw[hfx] at this
   exact⟨(Maps.has_del_other hne).trans this.1,fun z=>(Maps.atKey_del_other hne z).trans (this.2 z)⟩
theorem UM.clear_run(h:UM w b n f)(ty:TypeId):
  ∃ w',(Builtin.clear_ #[tM] ty #[.map (some b)]).run Tryz.prog w = .ok (.tuple #[]) w'∧UM w' b n (fun _=>none)∧w.mapTurned w' b:=by
 obtain⟨D,⟨es,clock,hb,F,hs,hD⟩,hf⟩:=h
 refine⟨ChangeMaps.setBlock w b (.map #[] clock),?_,⟨.map [],⟨#[],clock,?_,?_,Nat.zero_le _,rfl⟩,fun _ _=>rfl⟩,⟨es,clock,#[],clock,hb,rfl⟩⟩
 ·simp[Builtin.clear_,run_underlying ht,MapKept.run_getObj_map hb,MapKept.run_setObj_map _ hb,Result.andThen]
  rfl
 ·exact ChangeMaps.heap_setBlock_same hb _
 ·exact⟨Nat.zero_le _,by simp[MapKept.Stamped],fun x hx=>by simp at hx⟩
end
end
section
open Go.RowKit
structure DiskM where
 g:Nat
 sv:Value
 ov:Value
 bl:Nat
 bf:Nat
 bc:Nat
 fv:Int→Option Value
 cv:Int→Option Value
structure DiskD where
 sec:List (List Int)
 opn:List (Int×List Int)
 down:Bool
 steps:Nat
 fl:Int→Bool
 cr:Int→Option (List Int)
 room:Nat
def foot(m:DiskM):List Nat:=[m.g,m.bl,m.bf,m.bc]++(m.sv.ownBlock.toList++m.ov.ownBlock.toList)
def wrC(p:Int×List Int):List Value:=.int .i64 p.1 :: u8s p.2
def lastOf(l:List (Int×List Int)):Int→Option Value:=l.zipIdx.foldl (fun f p=>uput f p.1.1 (.int .i64 (p.2:Nat))) (fun _=>none)
def rdD(d:DiskD)(at_:Int):List Int:=(((d.opn.filter (fun p=>p.1 == at_)).getLast?).map (·.2)).getD (d.sec.getD at_.toNat [])
def diskC(m:DiskM)(d:DiskD):Array Value:=#[m.sv,m.ov,.map (some m.bl),.bool d.down,.int .i64 d.steps,.map (some m.bf),.map (some m.bc)]
def Sec(s:List Int):Prop:=s.length=64∧Bys s
structure DOk(d:DiskD):Prop where
 sec:∀ s∈d.sec,Sec s
 opn:∀ p∈d.opn,0≤p.1∧p.1<d.sec.length∧Sec p.2
 few:d.sec.length≤4096
 lo:d.opn.length≤d.room
 st:d.steps≤d.room
 rm:d.room≤100000
 cl:∀ k cs,d.cr k=some cs→cs.length≤1000000
structure DK(w:World)(m:DiskM)(d:DiskD):Prop where
 blk:Blk w m.g 151 (diskC m d)
 sec:w.ownsRow 0 243 64 m.sv d.sec.length (d.sec.flatMap u8s)
 opn:w.ownsRow 0 363 65 m.ov d.opn.length (d.opn.flatMap wrC)
 last:UM w m.bl d.room (lastOf d.opn)
 fl:UM w m.bf d.room m.fv
 cr:UM w m.bc d.room m.cv
 nd:(foot m).Nodup
 flv:∀ k,isI64 k→(m.fv k).getD (.bool false) = .bool (d.fl k)
 crv:∀ k,isI64 k→match d.cr k with
  | none=>m.cv k=none
  | some cs=>∃ v,m.cv k=some v∧Sn w 1 v cs.length (i64s cs)∧∀ b,v.ownBlock=some b→b ∉ foot m∧b<w.heap.size
 ok:DOk d
structure Fo(F:List Nat)(w w':World):Prop where
 os:w'.os=w.os
 tape:w'.tape=w.tape
 output:w'.output=w.output
 size:w.heap.size≤w'.heap.size
 block:∀ k,k<w.heap.size→k ∉ F→w'.heap[k]? = w.heap[k]?
section
variable {F G : List Nat} {w w' w'' : World}
theorem Fo.of_below(h:Below w.heap.size w w'):Fo F w w':=⟨h.os,h.tape,h.output,h.size,fun k hk _=>h.block k hk⟩
theorem Fo.refl:Fo F w w:=⟨rfl,rfl,rfl,Nat.le_refl _,fun _ _ _=>rfl⟩
theorem Fo.trans(h:Fo F w w')(k:Fo G w' w'')(hG:∀ x∈G,x∈F∨w.heap.size≤x):Fo F w w'':=
 ⟨k.os.trans h.os,k.tape.trans h.tape,k.output.trans h.output,Nat.le_trans h.size k.size,fun i hi hne=>(k.block i (Nat.lt_of_lt_of_le hi h.size) (fun hx=>(hG i hx).elim hne fun h1=>by omega)).trans (h.block i hi hne)⟩
theorem Fo.trans_same(h:Fo F w w')(k:Fo F w' w''):Fo F w w'':=h.trans k fun _ h=>.inl h
theorem Fo.off{b:Nat}(h:Off b w w')(hb:b∈F):Fo F w w':=⟨h.os,h.tape,h.output,h.size,fun k hk hne=>h.block k hk fun e=>hne (e ▸ hb)⟩
theorem Fo.below{B:Nat}(h:Fo F w w')(hF:∀ k∈F,B≤k)(hB:B≤w.heap.size):Below B w w':=⟨h.os,h.tape,h.output,h.size,fun k hk=>h.block k (by omega) fun hx=>by have:=hF k hx;omega⟩
theorem Fo.set(h:Fo F w w')(b i:Nat)(hb:b∈F)(u:Value):Fo F w (w'.setCell ⟨b,i,none⟩ u):=
 ⟨h.os,h.tape,h.output,by simpa using h.size,fun k hk hne=>(Below.heap_setCell w' ⟨b,i,none⟩ u k (fun e=>hne (e ▸ hb))).trans (h.block k hk hne)⟩
theorem Fo.drew(h:Fo F w w'):Fo F w w'.drew:=⟨h.os,h.tape,h.output,h.size,h.block⟩
theorem Fo.cell(h:Fo F w w'){a:Addr}{v:Value}(hc:w.cell? a=some v)(hne:a.block ∉ F):w'.cell? a=some v:=by
 have:=h.block a.block (cell_lt hc) hne
 unfold World.cell? at hc ⊢
 rw[this];exact hc
theorem Fo.sn{s n:Nat}{v:Value}{xs:List Value}(h:Fo F w w')(hs:Sn w s v n xs)(hne:∀ b,v.ownBlock=some b→b ∉ F):Sn w' s v n xs:=by
 obtain⟨A,cap,rfl,hc,hl,hx⟩:=hs
 refine⟨A,cap,rfl,hc,hl,fun hp=>?_⟩
 obtain⟨b,off,rfl,hcell⟩:=hx hp
 exact⟨b,off,rfl,fun j u hj=>h.cell (hcell j u hj) (hne b rfl)⟩
end
theorem own_blk{w w':World}{base e s n:Nat}{v:Value}{xs:List Value}(h:w.ownsRow base e s v n xs)(hb:∀ b,v.ownBlock=some b→w'.heap[b]? = w.heap[b]?):w'.ownsRow base e s v n xs:=by
 refine⟨h.1,?_⟩
 rcases h.2 with h2|⟨g,cap,cur,rfl,hg,hh,r⟩
 ·exact .inl h2
 ·exact .inr ⟨g,cap,cur,rfl,hg,by rw[hb g rfl];exact hh,r⟩
theorem foot_g(m:DiskM):m.g∈foot m:=by simp[foot]
theorem foot_bl(m:DiskM):m.bl∈foot m:=by simp[foot]
theorem foot_bf(m:DiskM):m.bf∈foot m:=by simp[foot]
theorem foot_bc(m:DiskM):m.bc∈foot m:=by simp[foot]
theorem foot_sv{m:DiskM}{b:Nat}(h:m.sv.ownBlock=some b):b∈foot m:=by simp[foot,h]
theorem foot_ov{m:DiskM}{b:Nat}(h:m.ov.ownBlock=some b):b∈foot m:=by simp[foot,h]
section
variable {w w' : World} {m : DiskM} {d : DiskD}
theorem DK.foot_lt(h:DK w m d):∀ k∈foot m,k<w.heap.size:=by
 intro k hk
 simp only[foot,List.mem_append,List.mem_cons,List.not_mem_nil,or_false,Option.mem_toList] at hk
 rcases hk with (rfl|rfl|rfl|rfl)|hk|hk
 ·exact h.blk.lt
 ·exact h.last.lt
 ·exact h.fl.lt
 ·exact h.cr.lt
 ·exact(h.sec.lt k hk).2
 ·exact(h.opn.lt k hk).2
theorem DK.of_blocks(h:DK w m d)(hb:∀ k,k<w.heap.size→w'.heap[k]? = w.heap[k]?)(hsz:w.heap.size≤w'.heap.size):DK w' m d where
 blk:=(hb m.g h.blk.lt).trans h.blk
 sec:=own_blk h.sec fun b hx=>hb b (h.sec.lt b hx).2
 opn:=own_blk h.opn fun b hx=>hb b (h.opn.lt b hx).2
 last:=h.last.of_block (hb _ h.last.lt)
 fl:=h.fl.of_block (hb _ h.fl.lt)
 cr:=h.cr.of_block (hb _ h.cr.lt)
 nd:=h.nd
 flv:=h.flv
 crv:=fun k hk=>by
  have:=h.crv k hk
  cases hc:d.cr k with
  | none=>rw[hc] at this;exact this
  | some cs=>
   rw[hc] at this
   obtain⟨v,h1,h2,h3⟩:=this
   refine⟨v,h1,h2.keep fun a u hu=>?_,fun b hb=>⟨(h3 b hb).1,Nat.lt_of_lt_of_le (h3 b hb).2 hsz⟩⟩
   have hlt:=cell_lt hu
   unfold World.cell? at hu ⊢
   rw[hb _ hlt];exact hu
 ok:=h.ok
theorem DK.keep(h:DK w m d)(hb:Below w.heap.size w w'):DK w' m d:=h.of_blocks hb.block hb.size
theorem DK.drew(h:DK w m d):DK w.drew m d:=h.of_blocks (fun _ _=>rfl) (Nat.le_refl _)
structure DT(w:World)(m:DiskM)(w':World)(m':DiskM):Prop where
 g:m'.g=m.g
 fo:Fo (foot m) w w'
 sub:∀ k∈foot m',k∈foot m∨w.heap.size≤k
 cv:∀ k v,m'.cv k=some v→m.cv k=some v∨∀ b,v.ownBlock=some b→w.heap.size≤b
theorem DT.refl:DT w m w m:=⟨rfl,Fo.refl,fun _ h=>.inl h,fun _ _ h=>.inl h⟩
theorem DT.trans{w'':World}{m' m'':DiskM}(h:DT w m w' m')(k:DT w' m' w'' m''):DT w m w'' m'':=
 ⟨k.g.trans h.g,h.fo.trans k.fo h.sub,fun x hx=>by
  rcases k.sub x hx with h1|h1
  ·exact h.sub x h1
  ·exact .inr (Nat.le_trans h.fo.size h1),fun x v hx=>by
  rcases k.cv x v hx with h1|h1
  ·exact h.cv x v h1
  ·exact .inr (fun b e=>Nat.le_trans h.fo.size (h1 b e))⟩
theorem DT.of_below(h:Below w.heap.size w w'):DT w m w' m:=⟨rfl,Fo.of_below h,fun _ h=>.inl h,fun _ _ h=>.inl h⟩
theorem DT.le{B:Nat}{m':DiskM}(h:DT w m w' m')(hF:∀ k∈foot m,B≤k)(hB:B≤w.heap.size):∀ k∈foot m',B≤k:=fun k hk=>by
 rcases h.sub k hk with h1|h1
 ·exact hF k h1
 ·omega
theorem DT.below{B:Nat}{m':DiskM}(h:DT w m w' m')(hF:∀ k∈foot m,B≤k)(hB:B≤w.heap.size):Below B w w':=h.fo.below hF hB
end
section
variable {w w' : World} {m m' : DiskM} {d d' : DiskD}
theorem DK.re(h:DK w m d)(hg:m'.g=m.g)(F:List Nat)(hF:∀ k∈F,k∈foot m)(ho:∀ k,k<w.heap.size→k ∉ F→w'.heap[k]? = w.heap[k]?)(hsz:w.heap.size≤w'.heap.size)
  (blk:Blk w' m.g 151 (diskC m' d'))
  (sec:w'.ownsRow 0 243 64 m'.sv d'.sec.length (d'.sec.flatMap u8s))
  (opn:w'.ownsRow 0 363 65 m'.ov d'.opn.length (d'.opn.flatMap wrC))
  (last:UM w' m'.bl d'.room (lastOf d'.opn)) (fl:UM w' m'.bf d'.room m'.fv) (cr:UM w' m'.bc d'.room m'.cv)
  (nd:(foot m').Nodup) (hft:∀ b∈foot m',b∈foot m∨w.heap.size≤b)
  (flv:∀ k,isI64 k→(m'.fv k).getD (.bool false) = .bool (d'.fl k))
  (hcr:∀ k,isI64 k→(d'.cr k=none∧m'.cv k=none)∨(d'.cr k=d.cr k∧m'.cv k=m.cv k)) (ok:DOk d'):DK w' m' d' where
 blk:=by rw[hg];exact blk
 sec:=sec
 opn:=opn
 last:=last
 fl:=fl
 cr:=cr
 nd:=nd
 flv:=flv
 crv:=fun k hk=>by
  rcases hcr k hk with ⟨h1,h2⟩|⟨h1,h2⟩
  ·rw[h1];exact h2
  ·have h3:=h.crv k hk
   rw[h1]
   cases hc:d.cr k with
   | none=>rw[hc] at h3;exact h2.trans h3
   | some cs=>
    rw[hc] at h3
    obtain⟨v,hv,hs,hb⟩:=h3
    refine⟨v,h2.trans hv,?_,fun b e=>⟨fun hm=>?_,Nat.lt_of_lt_of_le (hb b e).2 hsz⟩⟩
    ·obtain⟨A,cap,rfl,hc1,hl,hx⟩:=hs
     refine⟨A,cap,rfl,hc1,hl,fun hp=>?_⟩
     obtain⟨b,off,rfl,hcell⟩:=hx hp
     exact⟨b,off,rfl,fun j u hj=>(World.cell?_of_block (a:=⟨b,off+j,none⟩) (ho b (hb b rfl).2 (fun hm=>(hb b rfl).1 (hF b hm)))).trans (hcell j u hj)⟩
    ·rcases hft b hm with h4|h4
     ·exact(hb b e).1 h4
     ·have:=(hb b e).2;omega
 ok:=ok
theorem foot_nd{m:DiskM}(h:(foot m).Nodup):m.g≠m.bl∧m.g≠m.bf∧m.g≠m.bc∧m.bl≠m.bf∧m.bl≠m.bc∧m.bf≠m.bc∧(∀ b,m.sv.ownBlock=some b→b≠m.g∧b≠m.bl∧b≠m.bf∧b≠m.bc)∧(∀ b,m.ov.ownBlock=some b→b≠m.g∧b≠m.bl∧b≠m.bf∧b≠m.bc)∧(∀ b,m.sv.ownBlock=some b→m.ov.ownBlock≠some b):=by
 unfold foot at h
 rw[List.nodup_append] at h
 obtain⟨h1,h2,h3⟩:=h
 rw[List.nodup_append] at h2
 obtain⟨_,_,h4⟩:=h2
 simp only[List.nodup_cons,List.mem_cons,List.not_mem_nil,or_false,not_or] at h1
 refine⟨h1.1.1,h1.1.2.1,h1.1.2.2,h1.2.1.1,h1.2.1.2,h1.2.2.1,fun b e=>?_,fun b e=>?_,fun b e e2=>?_⟩
 ·have hm:b∈m.sv.ownBlock.toList++m.ov.ownBlock.toList:=by simp[e]
  exact⟨fun e3=>h3 m.g (by simp) b hm e3.symm,fun e3=>h3 m.bl (by simp) b hm e3.symm,fun e3=>h3 m.bf (by simp) b hm e3.symm,fun e3=>h3 m.bc (by simp) b hm e3.symm⟩
 ·have hm:b∈m.sv.ownBlock.toList++m.ov.ownBlock.toList:=by simp[e]
  exact⟨fun e3=>h3 m.g (by simp) b hm e3.symm,fun e3=>h3 m.bl (by simp) b hm e3.symm,fun e3=>h3 m.bf (by simp) b hm e3.symm,fun e3=>h3 m.bc (by simp) b hm e3.symm⟩
 ·exact h4 b (by simp[e]) b (by simp[e2]) rfl
theorem DK.room(h:DK w m d)(r:Nat)(h1:d.room≤r)(h2:r≤100000):DK w m { d with room:=r } where
 blk:=h.blk
 sec:=h.sec
 opn:=h.opn
 last:=h.last.mono h1
 fl:=h.fl.mono h1
 cr:=h.cr.mono h1
 nd:=h.nd
 flv:=h.flv
 crv:=h.crv
 ok:=⟨h.ok.sec,h.ok.opn,h.ok.few,Nat.le_trans h.ok.lo h1,Nat.le_trans h.ok.st h1,h2,h.ok.cl⟩
end
theorem lastOf_snoc(l:List (Int×List Int))(p:Int×List Int):lastOf (l++[p])=uput (lastOf l) p.1 (.int .i64 (l.length:Nat)):=by
 unfold lastOf
 rw[List.zipIdx_append,List.foldl_append]
 simp
theorem lastOf_nil:lastOf []=fun _=>none:=rfl
theorem rev_ind{α:Type}{Q:List α→Prop}(h0:Q [])(h1:∀ l p,Q l→Q (l++[p]))(l:List α):Q l:=by
 have:∀ l:List α,Q l.reverse:=fun l=>by
  induction l with
  | nil=>exact h0
  | cons x l ih=>rw[List.reverse_cons];exact h1 _ _ ih
 have h:=this l.reverse
 rwa [List.reverse_reverse] at h
theorem lastOf_spec(l:List (Int×List Int)):∀ k:Int,match lastOf l k with
  | none=>l.filter (fun p=>p.1 == k)=[]
  | some v=>∃(i:Nat) (h:i<l.length),v = .int .i64 i∧(l.filter (fun p=>p.1 == k)).getLast? = some l[i]:=by
 refine rev_ind (Q:=fun l=>∀ k:Int,match lastOf l k with
  | none=>l.filter (fun p=>p.1 == k)=[]
  | some v=>∃(i:Nat) (h:i<l.length),v = .int .i64 i∧(l.filter (fun p=>p.1 == k)).getLast? = some l[i]) (fun k=>rfl) (fun l p ih k=>?_) l
 ·show _
  rw[lastOf_snoc]
  unfold uput
  by_cases hk:k=p.1
  ·rw[if_pos hk]
   refine⟨l.length,by simp,rfl,?_⟩
   rw[List.filter_append]
   simp[hk]
  ·rw[if_neg hk]
   have:=ih k
   have hf:(l++[p]).filter (fun p=>p.1 == k)=l.filter (fun p=>p.1 == k):=by
    rw[List.filter_append]
    have hk':¬p.1=k:=fun e=>hk e.symm
    simp[hk']
   cases hl:lastOf l k with
   | none=>rw[hl] at this;simp only at this ⊢;rw[hf];exact this
   | some v=>
    rw[hl] at this
    obtain⟨i,hi,rfl,h1⟩:=this
    refine⟨i,by simp;omega,rfl,?_⟩
    rw[hf,h1,List.getElem_append_left hi]
attribute [irreducible] lastOf
theorem wrC_length{p:Int×List Int}(h:Sec p.2):(wrC p).length=65:=by simp[wrC,u8s_length,h.1]
theorem sec_length{s:List Int}(h:Sec s):(u8s s).length=64:=by rw[u8s_length,h.1]
theorem rdD_sec{d:DiskD}(h:DOk d)(a:Int)(h0:0≤a)(h1:a<d.sec.length):Sec (rdD d a):=by
 unfold rdD
 cases hf:(d.opn.filter (fun p=>p.1 == a)).getLast? with
 | none=>
  have hlt:a.toNat<d.sec.length:=by omega
  have hx:d.sec.getD a.toNat []=d.sec[a.toNat]:=by simp[List.getD_eq_getElem?_getD,List.getElem?_eq_getElem hlt]
  simp only[Option.map_none,Option.getD_none,hx]
  exact h.sec _ (List.getElem_mem hlt)
 | some p=>
  simp only[Option.map_some,Option.getD_some]
  have:=List.mem_of_getLast? hf
  exact(h.opn p (List.mem_filter.1 this).1).2.2
end
section
open Go.RowKit
attribute [local irreducible] wpQuiet wpAnyH
def zsec:List Int:=List.replicate 64 0
theorem zsec_sec:Sec zsec:=⟨by simp[zsec],fun b hb=>by have:=(List.mem_replicate.1 hb).2;omega⟩
def newD(n:Nat):DiskD:={ sec:=List.replicate n zsec,opn:=[],down:=false,steps:=0,fl:=fun _=>false,cr:=fun _=>none,room:=0 }
theorem zsec_u8s:u8s zsec=List.replicate 64 (.int .u8 0):=by simp[zsec,u8s]
theorem zsecs_u8s(n:Nat):(List.replicate n zsec).flatMap u8s=List.replicate (n*64) (.int .u8 0):=by
 induction n with
 | zero=>simp
 | succ n ih=>rw[List.replicate_succ,List.flatMap_cons,ih,zsec_u8s,Nat.add_mul,Nat.one_mul,Nat.add_comm,List.replicate_append_replicate]
attribute [irreducible] zsec
theorem madeCells_u8(N:Nat):madeCells (Array.replicate 64 (.int .u8 0)) N=(List.replicate N (.int .u8 0)).toArray:=by
 have:(madeCells (Array.replicate 64 (.int .u8 0)) N).toList=List.replicate N (.int .u8 0):=by
  rw[List.eq_replicate_iff]
  refine⟨by simp[madeCells],fun b hb=>?_⟩
  simp only[madeCells,Array.toList_map,List.mem_map] at hb
  obtain⟨i,_,rfl⟩:=hb
  have hlt:i % 64<64:=Nat.mod_lt _ (by decide)
  simp[hlt]
 rw[← this,Array.toArray_toList]
theorem make_secs(n:Nat)(hn:n≤4096)(w:World):(Instr.makeSlice 46 (.int .i64 n) (.int .i64 n)).run Tryz.prog w = .ok (.slice (some ⟨w.heap.size,0,none⟩) n n) (w.alloc (.cells ((List.replicate n zsec).flatMap u8s).toArray 243)):=by
 have hI:(Tryz.prog.info? 243).map (fun i=>(i.zero,i.size,i.bytes))=some (some (.agg (Array.replicate 64 (.int .u8 0))),64,64):=by kernel_rfl
 obtain⟨i,h1,h2,h3,h4⟩:=info_parts hI
 have:=run_makeSlice (P:=Tryz.prog) (w:=w) 46 243 i _ Tryz.underlying46 h1 h2 .i64 .i64 n n (by omega) (Int.le_refl _) (by rw[h3];simp;omega) (by rw[h4];omega) (by omega)
 rw[this,h3,Int.toNat_natCast,zsecs_u8s]
 have hz:(Value.agg (Array.replicate 64 (.int .u8 0))).cells=Array.replicate 64 (.int .u8 0):=rfl
 rw[hz,madeCells_u8]
theorem disk_has(a:Int)(w:World)(m:DiskM)(d:DiskD)(h:DK w m d):
  Calls Tryz.prog 308 #[.pointer (some ⟨m.g,0,none⟩),.int .i64 a] w fun e w'=>e = .returned (.bool (decide (0≤a) && decide (a<d.sec.length)))∧w'=w:=by
 obtain⟨A,cap,hv,_⟩:=Sn.own h.sec
 have hc:=h.blk.cell 0
 simp only[diskC,List.getElem?_toArray,List.getElem?_cons_zero,hv] at hc
 rcases Bool.eq_false_or_eq_true (decide (0≤a)) with t1|t1 <;> rcases Bool.eq_false_or_eq_true (decide (a<d.sec.length)) with t2|t2
 all_goals
  go_enter Tryz.func308,Tryz.ntmps308
  go_wp2_with fail
  go_ret
  refine⟨?_,rfl⟩
  first|rfl|(rw[t1];rfl)|(rw[t1,t2];rfl)
def freshM(w:World)(n:Nat):DiskM:={ g:=w.heap.size+4,sv:=.slice (some ⟨w.heap.size,0,none⟩) n n,ov:=.slice none 0 0,bl:=w.heap.size+1,bf:=w.heap.size+2,bc:=w.heap.size+3,fv:=fun _=>none,cv:=fun _=>none }
theorem disk_new(n:Nat)(w:World)(_:0≤n)(hn2:n≤4096):
  Calls Tryz.prog 39 #[.int .i64 n] w fun e w'=>∃ m,e = .returned (.pointer (some ⟨m.g,0,none⟩))∧DK w' m (newD n)∧Below w.heap.size w w'∧∀ k∈foot m,w.heap.size≤k:=by
 have hmk:∀(t:TypeId) (w:World),(Instr.makeMap t none).run Tryz.prog w = .ok (.map (some w.heap.size)) (w.alloc (.map #[] 0)):=fun t w=>run_makeMap t w
 have hms:∀ w,(Instr.makeSlice 46 (.int .i64 n) (.int .i64 n)).run Tryz.prog w = .ok (.slice (some ⟨w.heap.size,0,none⟩) n n) (w.alloc (.cells ((List.replicate n zsec).flatMap u8s).toArray 243)):=make_secs n hn2
 have hm1:max (n:Int) 0=n:=by omega
 have hm2:min (n:Int) 4096=n:=by omega
 have hm3:(0:Int)≤n:=by omega
 have hm4:(n:Int)≤4096:=by omega
 go_enter Tryz.func39,Tryz.ntmps39
 go_wp2_with fail
 go_ret
 obtain⟨w1,hw1⟩:∃ w1,w1=w.alloc (.cells ((List.replicate n zsec).flatMap u8s).toArray 243):=⟨_,rfl⟩
 have s1:w1.heap.size=w.heap.size+1:=by rw[hw1];simp
 have b1:w1.heap[w.heap.size]? = some (.cells ((List.replicate n zsec).flatMap u8s).toArray 243 (0,0)):=by rw[hw1];exact heap_alloc_new w _
 have B1:Below w.heap.size w w1:=by rw[hw1];exact(Below.refl _ w).alloc (Nat.le_refl _) _
 rw[← hw1]
 clear hw1
 obtain⟨w2,hw2⟩:∃ w2,w2=w1.alloc (.map #[] 0):=⟨_,rfl⟩
 have u2:UM w2 (w.heap.size+1) 0 (fun _=>none):=by rw[hw2];exact UM.madeAt w1 _ s1
 have s2:w2.heap.size=w.heap.size+2:=by rw[hw2];simp[s1]
 have B2:Below w1.heap.size w1 w2:=by rw[hw2];exact(Below.refl _ _).alloc (Nat.le_refl _) _
 rw[← hw2]
 clear hw2
 obtain⟨w3,hw3⟩:∃ w3,w3=w2.alloc (.map #[] 0):=⟨_,rfl⟩
 have u3:UM w3 (w.heap.size+2) 0 (fun _=>none):=by rw[hw3];exact UM.madeAt w2 _ s2
 have s3:w3.heap.size=w.heap.size+3:=by rw[hw3];simp[s2]
 have B3:Below w2.heap.size w2 w3:=by rw[hw3];exact(Below.refl _ _).alloc (Nat.le_refl _) _
 rw[← hw3]
 clear hw3
 obtain⟨w4,hw4⟩:∃ w4,w4=w3.alloc (.map #[] 0):=⟨_,rfl⟩
 have u4:UM w4 (w.heap.size+3) 0 (fun _=>none):=by rw[hw4];exact UM.madeAt w3 _ s3
 have s4:w4.heap.size=w.heap.size+4:=by rw[hw4];simp[s3]
 have B4:Below w3.heap.size w3 w4:=by rw[hw4];exact(Below.refl _ _).alloc (Nat.le_refl _) _
 rw[← hw4]
 clear hw4
 have B5:∀ o,Below w4.heap.size w4 (w4.alloc o):=fun o=>(Below.refl _ _).alloc (Nat.le_refl _) _
 have B34:=bstep B3 B4
 have B24:=bstep B2 B34
 refine⟨freshM w n,rfl,⟨?_,⟨?_,.inr ⟨w.heap.size,n,((List.replicate n zsec).flatMap u8s).toArray,by simp[freshM,newD],Nat.zero_le _,?_,?_⟩⟩,⟨rfl,.inl ⟨rfl,rfl⟩⟩,?_,?_,?_,?_,fun _ _=>rfl,fun _ _=>rfl,?_⟩,bstep B1 (bstep B24 (B5 _)),?_⟩
 ·exact Blk.newAt w4 151 (diskC (freshM w n) (newD n)) _ s4
 ·show((List.replicate n zsec).flatMap u8s).length=(List.replicate n zsec).length*64
  rw[zsecs_u8s];simp
 ·exact((bstep B24 (B5 _)).block w.heap.size (by omega)).trans b1
 ·refine⟨by simp[newD],by unfold maxLen;omega,?_,?_⟩
  ·rw[zsecs_u8s];simp
  ·show List.take ((List.replicate n zsec).length*64) _=(List.replicate n zsec).flatMap u8s
   rw[zsecs_u8s];simp
 ·show UM _ _ _ (lastOf [])
  rw[lastOf_nil]
  exact(u2.keep B34).keep (B5 _)
 ·exact(u3.keep B4).keep (B5 _)
 ·exact u4.keep (B5 _)
 ·simp[foot,freshM,Value.ownBlock]
 ·refine⟨fun s hs=>?_,fun p hp=>?_,?_,Nat.le_refl _,Nat.le_refl _,Nat.zero_le _,fun k cs h=>by cases h⟩
  ·obtain rfl:=(List.mem_replicate.1 hs).2
   exact zsec_sec
  ·cases hp
  ·simp[newD];omega
 ·intro k hk
  simp[foot,freshM,Value.ownBlock] at hk
  omega
section
variable {P : Program}
theorem bld{ops:Array Oper}{rest:List Oper}{o:Oper}{a:Act}{w:World}{Q:Exit→Act→World→Prop}(ty:TypeId)(parts:Array (Nat×Operand))(ho:o.op = .build ty parts)(hw:Region.wanted o (yielded ops a.tmps)=true)
  {vs:List (Nat×Value)} {cells:Array Value} (hv:(parts.toList.map fun(i,x)=>(i,a.eval x))=vs) (hb:P.built ty vs=some cells)
  (h:wpList P ops Q rest (a.put o.dst (.agg cells)) w):wpList P ops Q (o :: rest) a w:=
 wpList_step fun K hK=>by
  rw[if_pos hw]
  rw[← Array.toList_map] at hv
  unfold Oper.wp
  have hrun:(execOp a.eval o).run P w = .ok (.value (.agg cells)) w:=by
   unfold execOp
   simp only[ho,Sem.run_bind,run_build w ty _ cells (by rw[hv];exact hb),Result.andThen_ok]
   rfl
  rw[hrun,Oper.upon_value]
  exact hK _ _ h
end
theorem built64:Tryz.prog.built 243 []=some z64:=by unfold z64;kernel_rfl
def hasB(d:DiskD)(a:Int):Bool:=decide (0≤a) && decide (a<d.sec.length)
def codeV(c:Int):Value:=.iface 29 (.int .i64 c)
def faultV(c a:Int):Value:=.iface 145 (.agg #[.int .i64 c,.int .i64 a])
def rdE(d:DiskD)(a:Int):Value:=if d.down then codeV 12 else if hasB d a then .nilIface else faultV 15 a
def rdS(d:DiskD)(a:Int):List Int:=if d.down then zsec else if hasB d a then rdD d a else zsec
theorem fault_new15(z:Int)(w:World):Calls Tryz.prog 38 #[.int .i64 15,.int .i64 z] w fun e w'=>e = .returned (faultV 15 z)∧w'=w:=by
 go_enter Tryz.func38,Tryz.ntmps38
 go_wp2_with fail
 go_ret
 exact⟨rfl,rfl⟩
theorem z64_zsec:z64=(u8s zsec).toArray:=by rw[zsec_u8s];unfold z64 u8s;simp
theorem flatMap_pieceM{α:Type}(f:α→List Value)(s:Nat):∀(l:List α),(∀ x∈l,(f x).length=s)→∀ k (hk:k<l.length),((l.flatMap f).drop (k*s)).take s=f l[k]
 | [],_,k,hk=>by simp at hk
 | x :: l,h,0,_=>by
  have hx:=h x (by simp)
  simp only[List.flatMap_cons,Nat.zero_mul,List.drop_zero,List.getElem_cons_zero]
  rw[List.take_append_of_le_length (by omega),List.take_of_length_le (by omega)]
 | x :: l,h,k+1,hk=>by
  have hx:=h x (by simp)
  simp only[List.flatMap_cons,List.getElem_cons_succ]
  rw[Nat.add_mul,Nat.one_mul,List.drop_append,List.drop_eq_nil_of_le (by omega),List.nil_append,hx,Nat.add_sub_cancel]
  exact flatMap_pieceM f s l (fun y hy=>h y (by simp[hy])) k (by simpa using hk)
theorem at_sec{w:World}{A:Option Addr}{cap:Nat}{l:List (List Int)}(h:Sn w 64 (.slice A l.length cap) l.length (l.flatMap u8s))(hok:∀ s∈l,Sec s)(k:Nat)(hk:k<l.length):
  ∃ b off,A=some ⟨b,off,none⟩∧w.rangeAt b (off+k*64) (u8s l[k]):=by
 obtain⟨b,off,rfl,hr⟩:=h.range k hk
 rw[flatMap_pieceM u8s 64 l (fun s hs=>sec_length (hok s hs)) k hk] at hr
 exact⟨b,off,rfl,hr⟩
theorem at_wr{w:World}{A:Option Addr}{cap:Nat}{l:List (Int×List Int)}(h:Sn w 65 (.slice A l.length cap) l.length (l.flatMap wrC))(hok:∀ p∈l,Sec p.2)(k:Nat)(hk:k<l.length):
  ∃ b off,A=some ⟨b,off,none⟩∧w.rangeAt b (off+k*65) (wrC l[k]):=by
 obtain⟨b,off,rfl,hr⟩:=h.range k hk
 rw[flatMap_pieceM wrC 65 l (fun s hs=>wrC_length (hok s hs)) k hk] at hr
 exact⟨b,off,rfl,hr⟩
theorem rdD_none{d:DiskD}{a:Int}(h:d.opn.filter (fun p=>p.1 == a)=[]):rdD d a=d.sec.getD a.toNat []:=by
 unfold rdD;rw[h];rfl
theorem rdD_some{d:DiskD}{a:Int}{p:Int×List Int}(h:(d.opn.filter (fun p=>p.1 == a)).getLast? = some p):rdD d a=p.2:=by
 unfold rdD;rw[h];rfl
theorem zint:∀ w,(zeroValue 3).run Tryz.prog w = .ok (.int .i64 0) w:=fun w=>by kernel_rfl
theorem disk_read(a:Int)(w:World)(m:DiskM)(d:DiskD)(h:DK w m d)(ha:isI64 a):
  Calls Tryz.prog 261 #[.pointer (some ⟨m.g,0,none⟩),.int .i64 a] w fun e w'=>e = .returned (.tuple #[.agg (u8s (rdS d a)).toArray,rdE d a])∧Below w.heap.size w w':=by
 have hgl:=h.blk.lt
 have H:=Lib.hid h
 have hc3:=h.blk.cell 3
 simp only[diskC,List.getElem?_toArray,List.getElem?_cons_succ,List.getElem?_cons_zero] at hc3
 have HZ:=Lib.hid z64_zsec
 clear h
 have HZ1:Hid (z64.all (·.oneCell')=true):=Lib.hid (by rw[z64_zsec];exact u8s_one _)
 have hzl:z64.size=64:=z64_size
 have HU:Hid (∀ s,Sec s→(Tryz.prog.info? 243).map (·.size)=some (u8s s).length):=Lib.hid (fun s hs=>by rw[sec_length hs];kernel_rfl)
 have HZS:Hid (Sec zsec):=Lib.hid zsec_sec
 have HB0:Hid (Blk (w.alloc (.cells z64 243)) w.heap.size 243 z64):=Lib.hid (Blk.new w _ _)
 have HA0:Hid (Below w.heap.size w (w.alloc (.cells z64 243))):=Lib.hid ((Below.refl _ _).alloc (Nat.le_refl _) _)
 cases hd:d.down with
 | true=>
  rw[hd] at hc3
  have HF:Hid (rdS d a=zsec∧rdE d a=codeV 12):=Lib.hid (by unfold rdS rdE;rw[hd];exact⟨rfl,rfl⟩)
  clear hd
  go_enter Tryz.func261,Tryz.ntmps261
  go_wp2_with (first
   | (refine al 243 z64 rfl rfl zero64 ?_)
   | (refine bld 243 #[] rfl rfl rfl built64 ?_)
   | (refine stBlk 243 (.tmp 4) (.tmp 16) rfl rfl rfl rfl HB0.out (by rw[hzl];kernel_rfl) rfl HZ1.out ?_;intro w3 hB3 hb3 _ _;have HB3:=Lib.hid hB3;have HE3:=Lib.hid hb3;clear hB3 hb3))
  have hr:w3.rangeAt w.heap.size 0 (u8s zsec):=by have h:=HB3.range;rw[HZ.out,List.toList_toArray] at h;exact h
  exact bodyPost_ret (results_cellR_tmp rfl _ rfl hr Tryz.underlying243 rfl (HU.out _ HZS.out)) rfl ⟨by rw[HF.out.1,HF.out.2];rfl,HA0.trans HE3.out⟩
 | false=>
  rw[hd] at hc3
  have HHAS:=Lib.hid (fun w1 (hb:Below w.heap.size w w1)=>disk_has a w1 m d (H.out.keep hb))
  cases hh:hasB d a with
  | false=>
   have HF:Hid (rdS d a=zsec∧rdE d a=faultV 15 a):=Lib.hid (by unfold rdS rdE;rw[hd,hh];exact⟨rfl,rfl⟩)
   have HH:Hid ((decide (0≤a) && decide (a<d.sec.length))=false):=Lib.hid hh
   rw[HH.out] at HHAS
   have HFN:=Lib.hid (fun w1=>fault_new15 a w1)
   clear hd hh
   go_enter Tryz.func261,Tryz.ntmps261
   go_wp2_with (first
    | (go_at_call 308;refine(HHAS.out _ HA0.out).mono ?_;rintro e w1 ⟨rfl,hw1⟩;rw[hw1];clear hw1)
    | (go_at_call 38;refine(HFN.out _).mono ?_;rintro e w1 ⟨rfl,hw1⟩;rw[hw1];clear hw1)
    | (refine al 243 z64 rfl rfl zero64 ?_)
    | (refine bld 243 #[] rfl rfl rfl built64 ?_)
    | (refine stBlk 243 (.tmp 4) (.tmp 22) rfl rfl rfl rfl HB0.out (by rw[hzl];kernel_rfl) rfl HZ1.out ?_;intro w3 hB3 hb3 _ _;have HB3:=Lib.hid hB3;have HE3:=Lib.hid hb3;clear hB3 hb3))
   have hr:w3.rangeAt w.heap.size 0 (u8s zsec):=by have h:=HB3.range;rw[HZ.out,List.toList_toArray] at h;exact h
   exact bodyPost_ret (results_cellR_tmp rfl _ rfl hr Tryz.underlying243 rfl (HU.out _ HZS.out)) rfl ⟨by rw[HF.out.1,HF.out.2];rfl,HA0.trans HE3.out⟩
  | true=>
   have hh2:0≤a∧a<d.sec.length:=by unfold hasB at hh;simpa using hh
   have HF:Hid (rdS d a=rdD d a∧rdE d a = .nilIface):=Lib.hid (by unfold rdS rdE;rw[hd,hh];exact⟨rfl,rfl⟩)
   have HH:Hid ((decide (0≤a) && decide (a<d.sec.length))=true):=Lib.hid hh
   rw[HH.out] at HHAS
   have HRS:Hid (Sec (rdD d a)):=Lib.hid (rdD_sec H.out.ok a hh2.1 hh2.2)
   have HLK:=Lib.hid (fun w1 (hb:Below w.heap.size w w1)=>UM.look Tryz.underlying146 (H.out.last.keep hb) (zint w1) ha)
   have HSP:=Lib.hid (lastOf_spec d.opn a)
   have hc2:=H.out.blk.cell 2
   simp only[diskC,List.getElem?_toArray,List.getElem?_cons_succ,List.getElem?_cons_zero] at hc2
   have HST:Hid (∀ s,Sec s→(z64.size=(u8s s).toArray.size)∧((u8s s).toArray.all (·.oneCell')=true)∧(Tryz.prog.info? 243).map (·.size)=some (u8s s).toArray.size):=Lib.hid (fun s hs=>⟨by rw[hzl];simp[sec_length hs],u8s_one s,by simp only[List.size_toArray,sec_length hs];kernel_rfl⟩)
   clear hd hh
   cases hl:lastOf d.opn a with
   | none=>
    rw[hl] at HLK HSP
    have HRD:Hid (rdD d a=d.sec.getD a.toNat []):=Lib.hid (rdD_none HSP.out)
    obtain⟨A0,cap0,hsv,_⟩:=Sn.own H.out.sec
    obtain⟨k,rfl⟩:=Int.eq_ofNat_of_zero_le hh2.1
    have hk:k<d.sec.length:=by omega
    have hsn:=Sn.own H.out.sec
    rw[hsv] at hsn
    obtain⟨b,off,rfl,hr⟩:=at_sec hsn H.out.ok.sec k hk
    have hc0:=H.out.blk.cell 0
    simp only[diskC,List.getElem?_toArray,List.getElem?_cons_succ,List.getElem?_cons_zero,hsv] at hc0
    have HRG:Hid (∀ w1,Below w.heap.size w w1→w1.rangeAt b (off+k*64) (u8s (rdD d k))):=Lib.hid (fun w1 hb=>by
     rw[HRD.out,Int.toNat_natCast,show d.sec.getD k []=d.sec[k] by simp[List.getD_eq_getElem?_getD,hk]]
     exact fun j u hj=>Below.cell' hb (hr j u hj))
    have hlk:=HLK.out _ HA0.out
    clear hr hsn hl hsv
    obtain⟨S,hS⟩:∃ S,S=u8s (rdD d k):=⟨_,rfl⟩
    have HS3:=Lib.hid (HST.out _ HRS.out)
    rw[← hS] at HRG HS3
    have HSE:=Lib.hid hS
    clear hS
    go_enter Tryz.func261,Tryz.ntmps261
    go_wp2_with (first
     | (go_at_call 308;refine(HHAS.out _ HA0.out).mono ?_;rintro e w1 ⟨rfl,hw1⟩;rw[hw1];clear hw1)
     | (refine al 243 z64 rfl rfl zero64 ?_)
     | (refine ld 243 _ rfl rfl rfl (HRG.out _ HA0.out) Tryz.underlying243 rfl (by simpa using HS3.out.2.2) ?_)
     | (refine stBlk 243 (.tmp 4) (.tmp 49) rfl rfl rfl rfl HB0.out HS3.out.2.2 HS3.out.1 HS3.out.2.1 ?_;intro w3 hB3 hb3 _ _;have HB3:=Lib.hid hB3;have HE3:=Lib.hid hb3;clear hB3 hb3))
    have hr:w3.rangeAt w.heap.size 0 S:=by have h:=HB3.range;rw[List.toList_toArray] at h;exact h
    exact bodyPost_ret (results_cellR_tmp rfl _ rfl hr Tryz.underlying243 rfl (by simpa using HS3.out.2.2)) rfl ⟨by rw[HF.out.1,HF.out.2,← HSE.out];rfl,HA0.trans HE3.out⟩
   | some v=>
    rw[hl] at HLK HSP
    obtain⟨i,hi,rfl,hlast⟩:=HSP.out
    have HRD:Hid (rdD d a=d.opn[i].2):=Lib.hid (rdD_some hlast)
    obtain⟨A0,cap0,hov,_⟩:=Sn.own H.out.opn
    have hsn:=Sn.own H.out.opn
    rw[hov] at hsn
    obtain⟨b,off,rfl,hr⟩:=at_wr hsn (fun p hp=>(H.out.ok.opn p hp).2.2) i hi
    have hc1:=H.out.blk.cell 1
    simp only[diskC,List.getElem?_toArray,List.getElem?_cons_succ,List.getElem?_cons_zero,hov] at hc1
    have HRG:Hid (∀ w1,Below w.heap.size w w1→w1.rangeAt b (off+i*65+1) (u8s (rdD d a))):=Lib.hid (fun w1 hb=>by
     rw[HRD.out]
     exact fun j u hj=>Below.cell' hb (by have:=hr (j+1) u hj;rw[show off+i*65+1+j=off+i*65+(j+1) by omega];exact this))
    have hlk:=HLK.out _ HA0.out
    have hi0:(0:Int)≤i:=by omega
    have hi1:(i:Int)<d.opn.length:=by omega
    clear hr hsn hl hov hlast HSP
    obtain⟨S,hS⟩:∃ S,S=u8s (rdD d a):=⟨_,rfl⟩
    have HS3:=Lib.hid (HST.out _ HRS.out)
    rw[← hS] at HRG HS3
    have HSE:=Lib.hid hS
    clear hS
    go_enter Tryz.func261,Tryz.ntmps261
    go_wp2_with (first
     | (go_at_call 308;refine(HHAS.out _ HA0.out).mono ?_;rintro e w1 ⟨rfl,hw1⟩;rw[hw1];clear hw1)
     | (refine al 243 z64 rfl rfl zero64 ?_)
     | (refine ld 243 _ rfl rfl rfl (HRG.out _ HA0.out) Tryz.underlying243 rfl (by simpa using HS3.out.2.2) ?_)
     | (refine stBlk 243 (.tmp 4) (.tmp 42) rfl rfl rfl rfl HB0.out HS3.out.2.2 HS3.out.1 HS3.out.2.1 ?_;intro w3 hB3 hb3 _ _;have HB3:=Lib.hid hB3;have HE3:=Lib.hid hb3;clear hB3 hb3))
    have hr:w3.rangeAt w.heap.size 0 S:=by have h:=HB3.range;rw[List.toList_toArray] at h;exact h
    exact bodyPost_ret (results_cellR_tmp rfl _ rfl hr Tryz.underlying243 rfl (by simpa using HS3.out.2.2)) rfl ⟨by rw[HF.out.1,HF.out.2,← HSE.out];rfl,HA0.trans HE3.out⟩
end
end Go.Proofs.YtiaigidbcljblaaGreatDoor
