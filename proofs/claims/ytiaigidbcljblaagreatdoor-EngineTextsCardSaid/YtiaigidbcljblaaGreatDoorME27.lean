import Derived.Test.YtiaigidbcljblaaGreatDoorME26
import Derived.Laws.IdiomStrings
import Derived.Lib.AppendStr
import Derived.Test.YtiaigidbcljblaaGreatDoorME24
import Derived.Test.YtiaigidbcljblaaGreatDoorME6
import Derived.WalkSmall
import Derived.Shelf.Strings.Builder1
import Derived.Lib.FrozenHead
import Derived.Test.YtiaigidbcljblaaGreatDoorME25
import Derived.Deep.RegionHeld3
import Derived.Deep.Cut
import Derived.Deep.CutBlock
set_option linter.unusedSimpArgs false
set_option maxRecDepth 100000
set_option maxHeartbeats 40000000
namespace Go.Proofs.YtiaigidbcljblaaGreatDoor
section
open Go.RowKit
def OwnT(w:World)(base:Nat)(v:Value)(l:Bs):Prop:=
 (v = .slice none 0 0∧l=[]) ∨
 ∃ g cap cur fz,v = .slice (some ⟨g,0,none⟩) l.length cap∧base≤g∧w.heap[g]? = some (.cells cur 5 fz)∧(fz=(0,0)∨cap≤fz.1)∧l.length≤cap∧cap≤maxLen∧cur.size=cap∧cur.toList.take l.length=Lib.byteCells l
theorem OwnT.of{w:World}{base:Nat}{v:Value}{l:Bs}(h:OwnB w base v l):OwnT w base v l:=by
 rcases h.2 with ⟨h1,h2⟩|⟨g,cap,cur,h1,h2,h3,h4,h5,h6,h7⟩
 ·exact .inl ⟨h1,List.eq_nil_of_length_eq_zero h2⟩
 ·exact .inr ⟨g,cap,cur,(0,0),h1,h2,h3,.inl rfl,h4,h5,by simpa using h6,by simpa using h7⟩
theorem OwnT.nil(w:World)(base:Nat):OwnT w base (.slice none 0 0) []:=.inl ⟨rfl,rfl⟩
theorem OwnT.lt{w:World}{base:Nat}{v:Value}{l:Bs}(h:OwnT w base v l):∀ k,v.ownBlock=some k→base≤k∧k<w.heap.size:=by
 intro k hk
 rcases h with ⟨rfl,_⟩|⟨g,cap,cur,fz,rfl,hb,hg,_⟩
 ·simp[Value.ownBlock] at hk
 ·simp[Value.ownBlock] at hk
  subst hk
  exact⟨hb,(Array.getElem?_eq_some_iff.1 hg).1⟩
theorem OwnT.below{w w':World}{base:Nat}{v:Value}{l:Bs}(h:OwnT w base v l)(hb:Below w.heap.size w w'):OwnT w' base v l:=by
 rcases h with h|⟨g,cap,cur,fz,h1,h2,h3,h4⟩
 ·exact .inl h
 ·exact .inr ⟨g,cap,cur,fz,h1,h2,(hb.block g (Array.getElem?_eq_some_iff.1 h3).1).trans h3,h4⟩
theorem OwnT.alloc{w:World}{base:Nat}{v:Value}{l:Bs}(h:OwnT w base v l)(o:Obj):OwnT (w.alloc o) base v l:=h.below (bel1S w o)
theorem OwnT.drewN{w:World}{base:Nat}{v:Value}{l:Bs}(h:OwnT w base v l)(n:Nat):OwnT (w.drewN n) base v l:=h
theorem OwnT.cell{w:World}{base g cap:Nat}{n:Nat}{l:Bs}(h:OwnT w base (.slice (some ⟨g,0,none⟩) n cap) l)(j:Nat)(hj:j<l.length):w.cell? ⟨g,j,none⟩=some (.int .u8 (l[j].toNat:Int)):=by
 rcases h with ⟨h,_⟩|⟨g',cap',cur,fz,h1,_,h3,_,_,_,_,h7⟩
 ·cases h
 ·injection h1 with e _ _
  injection e with e
  injection e with e _ _
  subst e
  rw[cell_of_row w g j cur _ fz h3]
  have:(cur.toList.take l.length)[j]? = some (.int .u8 (l[j].toNat:Int)):=by rw[h7];simp[Lib.byteCells,hj]
  rw[List.getElem?_take,if_pos hj] at this
  simpa using this
theorem OwnT.conv{w:World}{base:Nat}{v:Value}{l:Bs}(h:OwnT w base v l):(convert 68 9 v).run Tryz.prog w = .ok (.string (SBy l)) w:=by
 rcases id h with ⟨rfl,rfl⟩|⟨g,cap',cur,fz,rfl,_⟩
 ·rw[run_convert_bytes_nil w 68 5 Tryz.underlying68 Tryz.underlying5 _ _ _ Tryz.underlying9]
  rfl
 ·exact run_convert_bytes_back w 68 9 5 ⟨g,0,none⟩ cap' l Tryz.underlying68 Tryz.underlying5 Tryz.underlying9 (fun j hj=>by
   have:=OwnT.cell h j hj
   rw[show(⟨g,0,none⟩:Addr).add j=⟨g,j,none⟩ by rw[Addr.add_lit];simp]
   exact this)
theorem OwnT.made(w:World)(base:Nat)(l:Bs)(hb:base≤w.heap.size)(hl:l.length≤maxLen):
  ∃ v w',(convert 9 68 (.string (SBy l))).run Tryz.prog w = .ok v w'∧OwnT w' base v l∧Below w.heap.size w w'∧(∀ k,v.ownBlock=some k→k=w.heap.size):=by
 have hr:=run_bytes_of_string (P:=Tryz.prog) w 9 68 5 (SBy l) Tryz.underlying9 Tryz.underlying68 Tryz.underlying5
 have hge:=grownCap_ge w (SBy l).size 0 5
 have hle:=grownCap_le_maxLen w (SBy l).size 0 5 (by rw[SB_size];exact hl)
 obtain⟨cap,hcap⟩:∃ c,c=grownCap w (SBy l).size 0 5:=⟨_,rfl⟩
 rw[← hcap] at hr hge hle
 rw[SB_size] at hr hge
 have hsz:(bytesRow (SBy l) cap).size=cap:=by
  unfold bytesRow
  simp only[Array.size_append,Array.size_map,Array.size_replicate]
  rw[show(SBy l).data.size=l.length from SB_size l,SB_size]
  omega
 refine⟨_,_,hr,.inr ⟨w.heap.size,cap,_,_,rfl,hb,heap_alloc_new w.drew _,.inr (by rw[hsz];exact Nat.le_refl _),hge,hle,hsz,?_⟩,(Below.refl _ w).drew.alloc (Nat.le_refl _) _,fun k hk=>by simpa [Value.ownBlock] using hk.symm⟩
 unfold bytesRow
 rw[Array.toList_append,List.take_append_of_le_length (by simp[SBy]),List.take_of_length_le (by simp[SBy])]
 simp[SBy,Lib.byteCells]
section
variable {P : Program}
end
theorem iByte:∃ i,Tryz.prog.info? 5=some i∧i.zero=some (.int .u8 0)∧i.size=1∧i.bytes=1:=
 info_parts (show(Tryz.prog.info? 5).map (fun i=>(i.zero,i.size,i.bytes))=some (some (.int .u8 0),1,1) by kernel_rfl)
section
variable {ops : Array Oper} {rest : List Oper} {o : Oper} {a : Act} {w : World} {Q : Exit → Act → World → Prop}
end
end
section
open Go.RowKit
def Tab (w : World) : Prop := Lib.TabIs Tryz.prog w "internal/strconv.uint64pow10" .u64 Lib.pow10Tab
theorem gTab : Tryz.prog.globalNamed "internal/strconv.uint64pow10" = some 0 := by kernel_rfl
theorem Tab.below{w w':World}(h:Tab w)(hb:Below w.heap.size w w'):Tab w':=by
 refine var?_below hb gTab ?_ h
 have hv:=h
 unfold Tab Lib.TabIs World.var? at hv
 simp only[gTab,Option.bind_some] at hv
 rcases Nat.lt_or_ge 0 w.heap.size with hlt|hge
 ·exact hlt
 ·rw[Array.getElem?_eq_none hge] at hv;cases hv
end
section
open Go.RowKit Go.Sort
end
section
open Go.RowKit
end
section
def skipL(w:Bs):Bool:=w.isEmpty || w.head? == some 35
def runT:List Bs→Nat→List OpD→Nat×List OpD
 | [],_,acc=>(0,acc)
 | [w],n,acc=>if w.isEmpty then (0,acc) else (n+1,[])
 | w :: x :: ws,n,acc=>if skipL w then runT (x :: ws) (n+1) acc else match parseL w with
  | none=>(n+1,[])
  | some o=>runT (x :: ws) (n+1) (acc++[o])
def parseT(s:Bs):Nat×List OpD:=runT (split 10 s) 0 []
theorem runT_last(w:Bs)(n:Nat)(acc:List OpD):runT [w] n acc=if w.isEmpty then (0,acc) else (n+1,[]):=rfl
theorem runT_skip{w:Bs}(ws:List Bs)(n:Nat)(acc:List OpD)(hs:skipL w=true)(hne:ws≠[]):runT (w :: ws) n acc=runT ws (n+1) acc:=by
 obtain⟨x,xs,rfl⟩:=List.exists_cons_of_ne_nil hne
 show(if skipL w then _ else _)=_
 rw[if_pos hs]
theorem runT_none{w:Bs}(ws:List Bs)(n:Nat)(acc:List OpD)(hs:skipL w=false)(hne:ws≠[])(hp:parseL w=none):runT (w :: ws) n acc=(n+1,[]):=by
 obtain⟨x,xs,rfl⟩:=List.exists_cons_of_ne_nil hne
 show(if skipL w then _ else match parseL w with|none=>_|some o=>_)=_
 rw[if_neg (by rw[hs];exact Bool.false_ne_true),hp]
theorem runT_some{w:Bs}{o:OpD}(ws:List Bs)(n:Nat)(acc:List OpD)(hs:skipL w=false)(hne:ws≠[])(hp:parseL w=some o):runT (w :: ws) n acc=runT ws (n+1) (acc++[o]):=by
 obtain⟨x,xs,rfl⟩:=List.exists_cons_of_ne_nil hne
 show(if skipL w then _ else match parseL w with|none=>_|some o=>_)=_
 rw[if_neg (by rw[hs];exact Bool.false_ne_true),hp]
end
section
open Go.RowKit
structure LI(w:World)(box:Array Value)(m:Value)(L:Bs)(wr:World):Prop where
 own:OwnT wr (w.heap.size+1) m L
 bel:Below w.heap.size w wr
 box:Blk wr w.heap.size 71 box
 size:w.heap.size+1≤wr.heap.size
theorem LI.grown{w:World}{box:Array Value}{m:Value}{L:Bs}{wr:World}(h:LI w box m L wr){v:Value}{L':Bs}{w':World}(h1:OwnT w' (w.heap.size+1) v L')(h2:wr.grownBy w' m.ownBlock):LI w box v L' w' where
 own:=h1
 bel:=h.bel.grown h2 (by have:=h.size;omega) (fun k hk=>by have:=(h.own.lt k hk).1;omega)
 box:=(h2.block w.heap.size (by have:=h.size;omega) (fun e=>by have:=(h.own.lt _ e.symm).1;omega)).trans h.box
 size:=Nat.le_trans h.size h2.size
theorem LI.alloc{w:World}{box:Array Value}{m:Value}{L:Bs}{wr:World}(h:LI w box m L wr)(o:Obj):LI w box m L (wr.alloc o) where
 own:=h.own.alloc o
 bel:=h.bel.alloc (by have:=h.size;omega) o
 box:=h.box.alloc o
 size:=by have:=h.size;simp;omega
theorem LI.drewN{w:World}{box:Array Value}{m:Value}{L:Bs}{wr:World}(h:LI w box m L wr)(n:Nat):LI w box m L (wr.drewN n) where
 own:=h.own.drewN n
 bel:=bdrewN h.bel n
 box:=h.box.drewN n
 size:=h.size
end
end Go.Proofs.YtiaigidbcljblaaGreatDoor
