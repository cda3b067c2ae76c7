import Derived.Test.YtiaigidbcljblaaGreatDoorME13
set_option linter.unusedSimpArgs false
set_option maxRecDepth 100000
set_option maxHeartbeats 40000000
namespace Go.Proofs.YtiaigidbcljblaaGreatDoor
open Go.RowKit
attribute [local irreducible] wpQuiet wpAnyH
attribute [local go_sem] Oper.semAt_some
theorem bel1(w:World)(o:Obj):Below w.heap.size w (w.alloc o):=(Below.refl _ w).alloc (Nat.le_refl _) _
theorem Turn.setCell{T T':Terr}{A B:World}(h:Turn T A T' B){b:Nat}(hb:T b)(i:Nat)(v:Value):Turn T A T' (B.setCell ⟨b,i,none⟩ v):=
 ⟨h.os,h.tape,h.output,by have:=h.size;simpa using this,fun k hk hn=>(Below.heap_setCell B ⟨b,i,none⟩ v k (fun e=>hn (by rw[e];exact hb))).trans (h.block k hk hn),h.sub⟩
theorem Turn.below{T T':Terr}{A B C:World}(h:Turn T A T' B)(hb:Below B.heap.size B C):Turn T A T' C:=
 ⟨hb.os.trans h.os,hb.tape.trans h.tape,hb.output.trans h.output,Nat.le_trans h.size hb.size,fun k hk hn=>(hb.block k (Nat.lt_of_lt_of_le hk h.size)).trans (h.block k hk hn),h.sub⟩
theorem Turn.grown{T T':Terr}{A B C:World}(h:Turn T A T' B){row:Option Nat}(hg:B.grownBy C row)(hr:∀ k,row=some k→T k):Turn T A T' C:=
 ⟨hg.os.trans h.os,hg.tape.trans h.tape,hg.output.trans h.output,Nat.le_trans h.size hg.size,fun k hk hn=>(hg.block k (Nat.lt_of_lt_of_le hk h.size) (fun e=>hn (hr k e.symm))).trans (h.block k hk hn),h.sub⟩
theorem Turn.one{T:Terr}{A B:World}{b:Nat}(hb:T b)(h:Below b A B)(ho:∀ k,k≠b→B.heap[k]? = A.heap[k]?)(hs:A.heap.size≤B.heap.size):Turn T A T B:=
 ⟨h.os,h.tape,h.output,hs,fun k _ hn=>ho k (fun e=>hn (by rw[e];exact hb)),fun _ h=>.inl h⟩
theorem SS.below{w:World}{N k:Nat}{st:SSt}{v:Value}{T:Terr}{A B:World}(h:SS w N k st v T A)(hb:Below A.heap.size A B):SS w N k st v T B:=h.stab (M:=N+6) (Nat.le_refl _) (Lies.of_below hb)
theorem SS.head{w:World}{N k:Nat}{v:Value}{T:Terr}{U:World}(h:SS w N k (none,[]) v T U)(g:Nat):SS w N (k+1) (some g,[]) v T ((U.setCell ⟨N+3,0,none⟩ (.bool true)).setCell ⟨N+3,1,none⟩ (.int .u32 g)) where
 b4:=(h.b4.far (by simp) _).far (by simp) _
 b5:=(h.b5.far (by simp) _).far (by simp) _
 b6:=((h.b6.set_ 0 _).set_ 1 _)
 own:=by
  obtain⟨_,hv⟩:=h.nil rfl
  rw[hv];exact World.ownsRow_nil _ _ _ _
 ownT:=h.ownT
 bel:=(h.bel.setCell (p:=⟨N+3,0,none⟩) (by simp) _).setCell (p:=⟨N+3,1,none⟩) (by simp) _
 tin:=h.tin
 tsub:=h.tsub
 tlt:=fun j hj=>by have:=h.tlt j hj;simpa using this
 size:=by have:=h.size;simpa using this
 ok:=h.ok
 len:=by simp
 nil:=fun e=>by cases e
theorem iLit1{F:Fence}{n:Nat}{P:Program}{ops:Array Oper}{rest:List Oper}{o:Oper}{a:Act}{w:World}{Q:Exit→Act→World→Prop}{t e s bytes:Nat}(T:SlT P t e s bytes)(x:Operand)(hF:∀ f,F.fn f)
  (ho:o.op = .buildSlice t 1 #[(0,x)]) (hw:Region.wanted o (yielded ops a.tmps)=true) {cs:List Value} (hx:a.eval x = .agg cs.toArray) (hl:cs.length=s) (hs:s≤1000)
  (h:wpListIn F n P ops Q rest (a.put o.dst (.slice (some ⟨w.heap.size,0,none⟩) 1 1)) (w.alloc (.cells cs.toArray e))):wpListIn F n P ops Q (o :: rest) a w:=by
 refine iVal (v:=.slice (some ⟨w.heap.size,0,none⟩) 1 1) (w':=w.alloc (.cells cs.toArray e)) hF (fun ρ=>Oper.semAt_eq _ _ _ (fun c=>by rw[ho];exact fun e=>by cases e)) hw ?_ h
 have hrun:=run_lit1M T cs hl hs w
 unfold execOp
 simp only[ho,Sem.run_bind,List.map_toArray,List.map_cons,List.map_nil,hx,hrun,Result.andThen_ok]
 rfl
theorem tEnt:SlT Tryz.prog 52 172 33 40:=SlT.mk' Tryz.underlying52 (z:=.agg zE) (by unfold zE;kernel_rfl) rfl (by decide)
theorem entP_one(q:Ent2):∀ u∈entP q,u.oneCell'=true:=fun u hu=>by
 simp only[entP,entC,List.mem_append,List.mem_singleton] at hu
 rcases hu with hu|rfl
 ·exact u8s_mem _ u hu
 ·rfl
theorem own_farS{w:World}{base e s n:Nat}{v:Value}{xs:List Value}(h:w.ownsRow base e s v n xs){g:Nat}(hg:g<base)(i:Nat)(u:Value):(w.setCell ⟨g,i,none⟩ u).ownsRow base e s v n xs:=
 own_blkS h fun b hb=>Below.heap_setCell w ⟨g,i,none⟩ u b (by have:=(h.lt b hb).1;simp;omega)
theorem SS.push{w:World}{N k g:Nat}{se:List Ent2}{v v':Value}{T:Terr}{W6 W7:World}(h:SS w N k (some g,se) v T W6){q:Ent2}(hq:EntOk q){M:Nat}
    (hown:W7.ownsRow (N+6) 172 33 v' (se.length+1) (se.flatMap entP++entP q)) (hgr:W6.grownBy W7 v.ownBlock) (hblk:v'.ownBlock=v.ownBlock∨v'.ownBlock=some W6.heap.size) (hM:N+6≤M∧M≤W6.heap.size):
    SS w N (k+1) (some g,se++[q]) v' (fun j=>T j∨(M≤j∧j<W7.heap.size)) (W7.setCell ⟨N+3,2,none⟩ v'):=by
  have hne:∀ j,j<N+6→some j≠v.ownBlock:=fun j hj e=>by have:=(h.own.lt j e.symm).1;omega
  have hs:=hgr.size
  have hN:=h.size
  have hk7:∀ j,j<N+6→W7.heap[j]? = W6.heap[j]?:=fun j hj=>hgr.block j (by omega) (hne j hj)
  have hk8:∀ j,j<N+6→j≠N+3→(W7.setCell ⟨N+3,2,none⟩ v').heap[j]? = W6.heap[j]?:=fun j hj h2=>(Below.heap_setCell W7 ⟨N+3,2,none⟩ v' j h2).trans (hk7 j hj)
  refine { b4 := (hk8 _ (by omega) (by omega)).trans h.b4, b5 := (hk8 _ (by omega) (by omega)).trans h.b5, b6 := ?_, own := ?_, ownT := ?_, bel := ?_, tin := ⟨.inl h.tin.1, .inl h.tin.2.1, .inl h.tin.2.2⟩
           tsub := fun j hj => hj.elim (h.tsub j) (fun h2 => .inr (.inr (.inr (by omega)))), tlt := fun j hj => hj.elim (fun h1 => by have := h.tlt j h1; simp; omega) (fun h2 => by simp; exact h2.2)
           size:=by simp;omega,ok:=?_,len:=by have:=h.len;simp at this ⊢;omega,nil:=fun e=>by cases e }
  · exact Blk.set_ (show Blk W7 (N+3) _ (stC (some g,se) v) from(hk7 _ (by omega)).trans h.b6) 2 v'
  · have:=own_farS hown (g:=N+3) (by omega) 2 v'
    rw[List.length_append,List.flatMap_append]
    simpa using this
  · intro j hj
    rcases hblk with e|e
    · exact .inl (h.ownT j (by rw[← e];exact hj))
    · rw[e] at hj
      injection hj with hj
      have:=(hown.lt j (by rw[e,hj])).2
      exact .inr ⟨by omega,this⟩
  · have h5:=h.bel
    refine⟨hgr.os.trans h5.os,hgr.tape.trans h5.tape,hgr.output.trans h5.output,by have:=h5.size;simp;omega,fun j hj=>(hk8 j (by omega) (by omega)).trans (h5.block j hj)⟩
  · intro y hy
    rcases List.mem_append.1 hy with hy|hy
    · exact h.ok y hy
    · rw[List.mem_singleton] at hy;rw[hy];exact hq
theorem stZ_one:stZ.all (·.oneCell')=true:=all_oneCell_toArray (cs:=[.bool false,.int .u32 0,.slice none 0 0]) fun u hu=>by
 simp only[List.mem_cons,List.not_mem_nil,or_false] at hu
 rcases hu with rfl|rfl|rfl <;> rfl
structure SX(w:World)(N:Nat)(all:List (List Int×Ans))(T:Terr)(U:World):Prop where
 ex:∃ y,scanR (none,[]) all=((none,[]),some y)∧Blk U (N+2) 42 #[valE (some y)]
 b4:Blk U (N+1) 392 stZ
 bel:Below N w U
 tin:T (N+1)∧T (N+2)
theorem SX.stab{w:World}{N:Nat}{all:List (List Int×Ans)}{T:Terr}{A B:World}(h:SX w N all T A){M:Nat}(hM:N+6≤M)(hl:Lies (fun k=>T k∨(k<M∧¬False)) A B):SX w N all T B:=by
 obtain⟨y,h1,h2⟩:=h.ex
 exact⟨⟨y,h1,hl.blk h2 (.inl h.tin.2)⟩,hl.blk h.b4 (.inl h.tin.1),⟨hl.os.trans h.bel.os,hl.tape.trans h.bel.tape,hl.output.trans h.bel.output,Nat.le_trans h.bel.size hl.size,fun j hj=>(hl.block j (by have:=h.b4.lt;omega) (.inr ⟨by omega,fun h=>h⟩)).trans (h.bel.block j hj)⟩,h.tin⟩
theorem slot_scan(f:Int)(z:Nat)(w:World)(m:DiskM)(d:DiskD)(h:DK w m d)(hf:0≤f∧f≤100000)(hz:z≤10000):
  Calls Tryz.prog 263 #[.pointer (some ⟨m.g,0,none⟩),.agg #[.int .i64 f,.int .i64 z]] w fun e w'=>Below w.heap.size w w'∧∃ v,e = .returned (.tuple #[.agg (stC (scanR (none,[]) (secsL d f z)).1 v),valE (scanR (none,[]) (secsL d f z)).2])∧w'.ownsRow w.heap.size 172 33 v (scanR (none,[]) (secsL d f z)).1.2.length ((scanR (none,[]) (secsL d f z)).1.2.flatMap entP)∧(∀ q∈(scanR (none,[]) (secsL d f z)).1.2,EntOk q):=by
 have hall:=secsL_sec h.ok z f
 have hlen:=secsL_len d z f
 obtain⟨all,hal⟩:∃ all,all=secsL d f z:=⟨_,rfl⟩
 rw[← hal] at hall hlen ⊢
 have HAL:=Lib.hid hall
 clear hall
 refine calls_marks Tryz.func263 rfl ?_
 simp only[Tryz.ntmps263,List.size_toArray,List.length_cons,List.length_nil,Nat.reduceAdd,Nat.reduceSub,Array.replicate_succ,Array.replicate_zero,List.push_toArray,List.append_toArray,List.nil_append,List.cons_append]
 refine wpIn_wide.2 ?_
 go_wp2_with (first
  | (refine al 392 stZ rfl rfl zeroS ?_)
  | (go_at_call 309;refine(sectors_any m.g f z _).mono ?_;rintro e W ⟨rfl,hW⟩))
 simp only[World.size_alloc,Nat.add_assoc,Nat.reduceAdd] at hW ⊢
 rw[← hW]
 have hbW:Below w.heap.size w W:=by rw[hW];exact bstep (bstep (bstep (bstep (bstep (bel1 _ _) (bel1 _ _)) (bel1 _ _)) (bel1 _ _)) (bel1 _ _)) (bel1 _ _)
 have hWs:W.heap.size=w.heap.size+6:=by rw[hW];simp
 have hB4:Blk W (w.heap.size+1) 392 stZ:=by rw[hW];exact((((Blk.newAt _ _ _ _ (by simp)).alloc _).alloc _).alloc _).alloc _
 have hB5:Blk W (w.heap.size+2) 42 #[.nilIface]:=by rw[hW];exact(((Blk.newAt _ _ _ _ (by simp)).alloc _).alloc _).alloc _
 have hB6:Blk W (w.heap.size+3) 392 stZ:=by rw[hW];exact((Blk.newAt _ _ _ _ (by simp)).alloc _).alloc _
 have hBd:Blk W (w.heap.size+4) 78 #[.pointer (some ⟨m.g,0,none⟩)]:=by rw[hW];exact(Blk.newAt _ _ _ _ (by simp)).alloc _
 have hBs:Blk W (w.heap.size+5) 324 #[.int .i64 f,.int .i64 z]:=by rw[hW];exact Blk.newAt _ _ _ _ (by simp)
 have HSEQ:=Lib.hid (secs_seq f z w m d (w.heap.size+5) (w.heap.size+4) W h hbW hBs hBd ⟨by omega,by omega⟩ hf (by omega))
 have HS0:Hid (SS w w.heap.size 0 (none,[]) (.slice none 0 0) (fun k=>k=w.heap.size+1∨k=w.heap.size+2∨k=w.heap.size+3) W):=Lib.hid {
  b4:=hB4,b5:=hB5,b6:=hB6
  own:=World.ownsRow_nil _ _ _ _
  ownT:=fun k h=>by cases h
  bel:=hbW
  tin:=⟨.inl rfl,.inr (.inl rfl),.inr (.inr rfl)⟩
  tsub:=fun j hj=>by rcases hj with h|h|h <;> simp[h]
  tlt:=fun j hj=>by rcases hj with h|h|h <;> omega
  size:=by omega
  ok:=fun q hq=>by cases hq
  len:=Nat.le_refl _
  nil:=fun _=>⟨rfl,rfl⟩ }
 rw[← hal] at HSEQ
 clear hB4 hB5 hB6 hBd hBs hbW hW hal h
 refine(wpIn_wide (n:=9)).1 ?_
 refine wpIn_rangeFunc_Z (w0:=W) (all:=all) (encs:=encS) (Z:=fun _=>False) (X:=XS w.heap.size (w.heap.size+5) (w.heap.size+4)) rfl (fun h=>by cases h) (gf:=328) (lb:=#[.pointer (some ⟨w.heap.size+5,0,none⟩),.pointer (some ⟨w.heap.size+4,0,none⟩)]) rfl trivial (enters_of Tryz.func328 (by kernel_rfl) rfl)
  (SeqZ.any HSEQ.out) (Below.refl _ _) (fun _=>rfl) (fun k h=>h.elim)
  (fun pre T U=>∃ st v,SS w w.heap.size pre.length st v T U∧RunS all pre st)
  (fun c pre T U=>(c = .ret∧SX w w.heap.size all T U)∨(c = .exit 0∧∃ st v,SS w w.heap.size pre.length st v T U∧scanR (none,[]) all=(st,none)))
  (fun pre x a' T U=>∃ st v b7,SS w w.heap.size pre.length st v T U∧RunS all pre st∧Blk U b7 243 (u8s x.1).toArray∧w.heap.size+6≤b7∧v.ownBlock≠some b7∧T b7∧a'={ tmps:=#[.pointer (some ⟨m.g,0,none⟩),.agg #[.int .i64 f,.int .i64 z],undef,.pointer (some ⟨w.heap.size,0,none⟩),.pointer (some ⟨w.heap.size+1,0,none⟩),.pointer (some ⟨w.heap.size+2,0,none⟩),.pointer (some ⟨w.heap.size+3,0,none⟩),.pointer (some ⟨b7,0,none⟩),valE x.2,undef,undef,undef,undef,undef,.pointer (some ⟨m.g,0,none⟩),.agg #[.int .i64 f,.int .i64 z],.func (.func 328) #[] #[.pointer (some ⟨w.heap.size+5,0,none⟩),.pointer (some ⟨w.heap.size+4,0,none⟩)],.agg (u8s x.1).toArray,valE x.2,undef,undef,undef,undef,undef,undef,undef,undef,undef,undef,undef,undef,undef,undef,undef,undef,undef,undef,undef,undef,undef,undef,undef,undef,undef,undef,undef,undef,undef,undef,undef,undef,undef,undef,undef,undef,undef,undef],defers:=[] })
  (fun k=>k=w.heap.size+1∨k=w.heap.size+2∨k=w.heap.size+3)
  (fun st T A' B h hli=>by
   obtain⟨s,v,h,hr⟩:=h
   exact⟨s,v,h.stab (M:=W.heap.size) (by omega) hli,hr⟩)
  (fun c st T A' B h hli=>by
   rcases h with ⟨hc,h⟩|⟨hc,s,v,h,hr⟩
   ·exact .inl ⟨hc,h.stab (M:=W.heap.size) (by omega) hli⟩
   ·exact .inr ⟨hc,s,v,h.stab (M:=W.heap.size) (by omega) hli,hr⟩)
  (fun pre x a' _ T A' B h hli=>by
   obtain⟨s,v,b7,h,hr,h7,hl,hn,ht,ha⟩:=h
   exact⟨s,v,b7,h.stab (M:=W.heap.size) (by omega) hli,hr,hli.blk h7 (.inl ht),hl,hn,ht,ha⟩)
  (fun st T A' h k hk=>by
   obtain⟨s,v,h,_⟩:=h
   exact h.tlt k hk)
  (fun k hk hx=>by
   rcases hk with h|h|h <;> rcases hx with h'|h'|h' <;> omega)
  ⟨_,_,HS0.out,fun rest e=>by rw[e];rfl⟩
  ?assign ?body ?done ?stop
 case assign=>
  rintro ln pre x T U hlD hpre hsz ⟨st,v,hI,hrp⟩
  have HI:=Lib.hid hI
  have HRP:=Lib.hid hrp
  have HSX:Hid (Sec x.1):=Lib.hid (HAL.out x (hpre.subset (by simp)))
  have HSZ:Hid ((Tryz.prog.info? 243).map (·.size)=some (u8s x.1).toArray.size∧z64.size=(u8s x.1).toArray.size):=Lib.hid ⟨by rw[List.size_toArray,sec_length HSX.out];kernel_rfl,by rw[z64_size,List.size_toArray,sec_length HSX.out]⟩
  clear hI hpre hrp
  simp only[encS,List.zip_toArray,List.zip_cons_cons,List.zip_nil_left,List.zip_nil_right,List.foldl_toArray,List.foldl_toArray',List.foldl_cons,List.foldl_nil,List.setIfInBounds_toArray,List.set_cons_succ,List.set_cons_zero]
  gi_wp2_with (first
   | (refine iAl 243 _ rfl (round_fn _) rfl zero64 ?_)
   | (refine iStNew (cells:=(u8s x.1).toArray) (old:=z64) 243 (.tmp 7) (.tmp 17) rfl (round_fn _) rfl (by rfl) (by rfl) (by exact HSZ.out.1) (by exact HSZ.out.2) (by exact u8s_one _) ?_;intro U2 hU2))
  have hb2:Below U.heap.size U U2:=by rw[hU2];exact bel1 _ _
  have hB7:Blk U2 U.heap.size 243 (u8s x.1).toArray:=by rw[hU2];exact Blk.new _ _ _
  have h2:=HI.stab (M:=w.heap.size+6) (Nat.le_refl _) (Lies.of_below hb2)
  have hlt:=hB7.lt
  rw[← hU2]
  refine⟨fun k=>T k∨k=U.heap.size,(Turn.of_below hb2).grow (fun k hk=>hk.imp id (fun h=>by omega)),st,v,U.heap.size,⟨h2.b4,h2.b5,h2.b6,h2.own,fun j hj=>.inl (h2.ownT j hj),h2.bel,⟨.inl h2.tin.1,.inl h2.tin.2.1,.inl h2.tin.2.2⟩,fun j hj=>hj.elim (h2.tsub j) (fun e=>by have:=HI.size;omega),fun j hj=>hj.elim (h2.tlt j) (fun e=>by omega),h2.size,h2.ok,h2.len,h2.nil⟩,HRP.out,hB7,HI.size,(fun e=>by have:=(HI.own.lt _ e).2;omega),.inr rfl,by trivial⟩
 case body=>
  rintro ln pre ⟨s,an⟩ a' T U hlD hpre hsz ⟨st,v,b7,hI,hrp,h7,hl7,hn7,ht7,rfl⟩
  have HSX:Hid (Sec s):=Lib.hid (HAL.out (s,an) (hpre.subset (by simp)))
  obtain⟨rest,hrest⟩:=hpre
  have HRUN:Hid (scanR (none,[]) all=scanR st ((s,an) :: rest)):=Lib.hid (hrp ((s,an) :: rest) (by rw[← hrest];simp))
  have HREST:=Lib.hid hrest
  have HI:=Lib.hid hI
  have HRP:=Lib.hid hrp
  have HR7:Hid (U.rangeAt b7 0 (u8s s)):=Lib.hid (by have:=h7.range;rw[List.toList_toArray] at this;exact this)
  have HUS:Hid ((Tryz.prog.info? 243).map (·.size)=some (u8s s).length):=Lib.hid (by rw[sec_length HSX.out];kernel_rfl)
  have HT7:=Lib.hid ht7
  clear hrest hI hrp h7 hn7 ht7
  dsimp only
  cases an with
  | some y=>
   have HBAD:Hid (scanR (none,[]) all=((none,[]),some y)):=Lib.hid (by rw[HRUN.out];rfl)
   obtain⟨t,u,hv⟩:=valE_form y
   have HV:=Lib.hid hv
   rw[hv]
   have hne:=neq_nil t u
   clear hv
   gi_wp2_with (refine iSt (cells:=stZ) 392 (.tmp 4) (.tmp 21) rfl (round_fn _) rfl (by rfl) (by rfl) HI.b4 (by kernel_rfl) rfl stZ_one ?_;intro U2 hB hb ho hz2;have HB4:=Lib.hid hB;have HTN:Hid (Turn T U T U2):=Lib.hid (Turn.one HI.tin.1 hb ho (by omega));have HB5:Hid (Blk U2 (w.heap.size+2) 42 #[.nilIface]):=Lib.hid ((ho _ (by omega)).trans HI.b5);have c5:=HB5.cell 0;have f5:=HB5.frozen 0;simp only[List.getElem?_toArray,List.getElem?_cons_zero] at c5;have HBL:Hid (Below w.heap.size w U2):=Lib.hid (HI.bel.trans (hb.mono (by omega)));clear hB hb ho hz2)
   refine⟨T,HTN.setCell HI.tin.2.1 0 _,.inl ⟨rfl,⟨y,HBAD.out,?_⟩,HB4.far (by simp) _,HBL.setCell (p:=⟨w.heap.size+2,0,none⟩) (by simp) _,HI.tin.1,HI.tin.2.1⟩⟩
   rw[HV.out]
   exact HB5.set_ 0 _
  | none=>
   have hv:valE none = .nilIface:=rfl
   rw[hv]
   obtain⟨so,se⟩:=st
   cases so with
   | none=>
    obtain⟨hse,hvn⟩:=HI.nil rfl
    dsimp only at hse
    subst hse
    have c0:=HI.b6.cell 0
    simp only[stC,List.getElem?_toArray,List.getElem?_cons_zero,Option.isSome_none] at c0
    gi_wp2_with (refine iLd 243 _ rfl (round_fn _) rfl (by rfl) HR7.out Tryz.underlying243 rfl HUS.out ?_)
    refine⟨trivial,(inR ln (frame_parse_header s U HSX.out.1 HSX.out.2)).mono ?_⟩
    rintro e U2 ⟨hb2,⟨hp,rfl⟩|⟨g,hp,rfl⟩⟩
    ·have HF:Hid (scanR (none,[]) all=((none,[]),none)):=Lib.hid (by rw[HRUN.out];unfold scanR stepS;simp only[hp,Option.map_none])
     have HI2:=Lib.hid (HI.below hb2)
     have HB2:=Lib.hid hb2
     clear hp hb2 c0
     gi_wp2_with fail
     exact⟨T,Turn.of_below HB2.out,.inr ⟨by simp,_,v,⟨HI2.b4,HI2.b5,HI2.b6,HI2.own,HI2.ownT,HI2.bel,HI2.tin,HI2.tsub,HI2.tlt,HI2.size,HI2.ok,by simp,HI2.nil⟩,HF.out⟩⟩
    ·have HF:Hid (scanR (none,[]) all=scanR (some g,[]) rest):=Lib.hid (by rw[HRUN.out];conv=>lhs;unfold scanR stepS;simp only[hp,Option.map_some])
     have HI2:=Lib.hid (HI.below hb2)
     have HB2:=Lib.hid hb2
     have d0:=HI2.b6.cell 0
     have d1:=(HI2.b6.set_ 0 (.bool true)).cell 1
     have e0:=HI2.b6.frozen 0
     have e1:=(HI2.b6.set_ 0 (.bool true)).frozen 1
     simp only[stC,List.getElem?_toArray,List.setIfInBounds_toArray,List.set_cons_zero,List.getElem?_cons_zero,List.getElem?_cons_succ,Option.isSome_none] at d0 d1
     clear hp hb2 c0
     gi_wp2_with fail
     refine⟨T,((Turn.of_below HB2.out).setCell HI.tin.2.2 0 _).setCell HI.tin.2.2 1 _,(some g,[]),v,?_,fun rest' e=>?_⟩
     ·have:=HI2.head g
      rw[List.length_append,List.length_singleton]
      exact this
     ·have:rest'=rest:=by rw[← HREST.out] at e;simpa using e.symm
      rw[this];exact HF.out
   | some g0=>
    have c0:=HI.b6.cell 0
    simp only[stC,List.getElem?_toArray,List.getElem?_cons_zero,Option.isSome_some] at c0
    gi_wp2_with (refine iLd 243 _ rfl (round_fn _) rfl (by rfl) HR7.out Tryz.underlying243 rfl HUS.out ?_)
    refine⟨trivial,(inR ln (frame_parse_entry s U HSX.out.1 HSX.out.2)).mono ?_⟩
    rintro e U2 ⟨hb2,⟨hp,rfl⟩|⟨g,q,hp,rfl⟩⟩
    ·have HF:Hid (scanR (none,[]) all=((some g0,se),none)):=Lib.hid (by rw[HRUN.out];unfold scanR stepS;simp only[hp])
     have HI2:=Lib.hid (HI.below hb2)
     have HB2:=Lib.hid hb2
     clear hp hb2 c0
     gi_wp2_with (first
      | (refine iAl 172 _ rfl (round_fn _) rfl zeroE ?_)
      | (refine iStNew (cells:=zE) 172 (.tmp 12) (.tmp 40) rfl (round_fn _) rfl (by rfl) (by rfl) (by rw[zE_size];kernel_rfl) rfl zE_one ?_;intro U3 hU3;have hb3:Below U2.heap.size U2 U3:=(by rw[hU3];exact bel1 _ _);have HI3:=Lib.hid (HI2.below hb3);have HB3:=Lib.hid hb3;clear hb3 hU3))
     exact⟨T,(Turn.of_below HB2.out).below HB3.out,.inr ⟨by simp,_,v,⟨HI3.b4,HI3.b5,HI3.b6,HI3.own,HI3.ownT,HI3.bel,HI3.tin,HI3.tsub,HI3.tlt,HI3.size,HI3.ok,by have:=HI3.len;simp at this ⊢;omega,HI3.nil⟩,HF.out⟩⟩
    ·have HI2:=Lib.hid (HI.below hb2)
     have HB2:=Lib.hid hb2
     have hqo:=prsE_ok HSX.out.2 hp
     have HQO:=Lib.hid hqo
     have HPQ:=Lib.hid hp
     have HQE:Hid ((Tryz.prog.info? 172).map (·.size)=some (entP q).length∧(Tryz.prog.info? 172).map (·.size)=some (entP q).toArray.size∧zE.size=(entP q).toArray.size):=Lib.hid ⟨by rw[entP_length q hqo];kernel_rfl,by rw[List.size_toArray,entP_length q hqo];kernel_rfl,by rw[zE_size,List.size_toArray,entP_length q hqo]⟩
     clear hp hb2 c0 hqo
     obtain⟨A,cap,rfl,_⟩:=own_snD HI.own
     by_cases tg:g=g0
     ·subst tg
      have HF:Hid (scanR (none,[]) all=scanR (some g,se++[q]) rest):=Lib.hid (by rw[HRUN.out];conv=>lhs;unfold scanR stepS;simp only[HPQ.out,if_true])
      have hlse:se.length≤10000:=by have:=HI.len;have h2:pre.length≤all.length:=(by rw[← HREST.out];simp);dsimp only at this;omega
      gi_wp2_with (first
       | (refine iAl 172 _ rfl (round_fn _) rfl zeroE ?_)
       | (refine iStNew (cells:=(entP q).toArray) 172 (.tmp 12) (.tmp 40) rfl (round_fn _) rfl (by rfl) (by rfl) HQE.out.2.1 HQE.out.2.2 (entC_one _ _) ?_;intro U3 hU3;have hb3:Below U2.heap.size U2 U3:=(by rw[hU3];exact bel1 _ _);have HI3:=Lib.hid (HI2.below hb3);have HB3:=Lib.hid hb3;have HR3:Hid (U3.rangeAt U2.heap.size 0 (entP q)):=Lib.hid (by rw[hU3];have:=(Blk.new U2 172 (entP q).toArray).range;rw[List.toList_toArray] at this;exact this);have c1:=HI3.b6.cell 1;have c2:=HI3.b6.cell 2;simp only[stC,List.getElem?_toArray,List.getElem?_cons_zero,List.getElem?_cons_succ,Option.getD_some] at c1 c2;have hs3:=HI3.size;clear hb3 hU3)
       | (refine iLd 172 (.tmp 12) rfl (round_fn _) rfl (by rfl) HR3.out Tryz.underlying172 rfl HQE.out.1 ?_)
       | (refine iLit1 tEnt (.tmp 52) (round_fn _) rfl rfl (cs:=entP q) (by rfl) (entP_length q HQO.out) (by omega) ?_)
       | (refine iApp tEnt (.tmp 51) (.tmp 53) (round_fn _) rfl rfl (by rfl) (World.ownsRow.alloc HI3.own _) (by rfl) (Sn.new U3 (entP q).toArray 172 33 1 (by rw[List.size_toArray,entP_length q HQO.out])) (fun u hu=>entP_one q u (by simpa using hu)) (by unfold maxLen;simp;omega) (by simp;omega) (by simp;omega) ?_;intro v' W7 hown hgrow hblk;obtain⟨A7,cap7,rfl,_⟩:=own_snD hown;rw[List.toList_toArray] at hown;have hb6:=bel1 U3 (.cells (entP q).toArray 172);have HI6:=Lib.hid (HI3.below hb6);have hg5:Blk W7 (w.heap.size+3) 392 (stC (some g,se) (.slice A se.length cap)):=((hgrow.block (w.heap.size+3) HI6.b6.lt (fun e=>by have:=(HI6.own.lt _ e.symm).1;omega)).trans HI6.b6);have c7:=hg5.cell 2;have f7:=hg5.frozen 2;simp only[stC,List.getElem?_toArray,List.getElem?_cons_zero,List.getElem?_cons_succ] at c7;have HOW:=Lib.hid hown;have HGR:=Lib.hid hgrow;have HBK:=Lib.hid hblk;have HB6:=Lib.hid hb6;clear hown hgrow hblk hb6 hg5))
      have hP:=HI6.push HQO.out (M:=U.heap.size) HOW.out HGR.out HBK.out ⟨HI.size,by have:=HB2.size;have:=HB3.size;have:=HB6.size;omega⟩
      have hRun:∀ rest',all=pre++[(s,none)]++rest'→scanR (none,[]) all=scanR (some g,se++[q]) rest':=fun rest' e=>by
       have:rest'=rest:=by rw[← HREST.out] at e;simpa using e.symm
       rw[this];exact HF.out
      have hP2:=hP
      rw[show pre.length+1=(pre++[(s,(none:Ans))]).length by simp] at hP2
      refine⟨fun k=>T k∨(U.heap.size≤k∧k<W7.heap.size),(((((Turn.of_below HB2.out).below HB3.out).below HB6.out).grown HGR.out (fun k e=>HI6.ownT k e)).setCell HI.tin.2.2 2 _).grow (fun k hk=>hk.imp id (fun h=>h.1)),?_⟩
      first
       | exact⟨some g,se++[q],⟨_,hP2⟩,hRun⟩
       | exact⟨some g,se++[q],⟨_,hP⟩,hRun⟩
       | exact⟨some g,se++[q],_,hP2,hRun⟩
       | exact⟨(some g,se++[q]),_,hP2,hRun⟩
       | exact⟨(some g,se++[q]),_,hP,hRun⟩
     ·have HF:Hid (scanR (none,[]) all=((some g0,se),none)):=Lib.hid (by rw[HRUN.out];unfold scanR stepS;simp only[HPQ.out,if_neg tg])
      have tg2:¬((g:Int)=(g0:Int)):=fun e=>tg (by omega)
      gi_wp2_with (first
       | (refine iAl 172 _ rfl (round_fn _) rfl zeroE ?_)
       | (refine iStNew (cells:=(entP q).toArray) 172 (.tmp 12) (.tmp 40) rfl (round_fn _) rfl (by rfl) (by rfl) HQE.out.2.1 HQE.out.2.2 (entC_one _ _) ?_;intro U3 hU3;have hb3:Below U2.heap.size U2 U3:=(by rw[hU3];exact bel1 _ _);have HI3:=Lib.hid (HI2.below hb3);have HB3:=Lib.hid hb3;have c1:=HI3.b6.cell 1;simp only[stC,List.getElem?_toArray,List.getElem?_cons_zero,List.getElem?_cons_succ,Option.getD_some] at c1;clear hb3 hU3))
      exact⟨T,(Turn.of_below HB2.out).below HB3.out,.inr ⟨by simp,_,_,⟨HI3.b4,HI3.b5,HI3.b6,HI3.own,HI3.ownT,HI3.bel,HI3.tin,HI3.tsub,HI3.tlt,HI3.size,HI3.ok,by have:=HI3.len;simp at this ⊢;omega,HI3.nil⟩,HF.out⟩⟩
 case done=>
  rintro D T U hD ⟨st,v,h,hrp⟩ hnD hKd
  have HFIN:Hid (scanR (none,[]) all=(st,none)):=Lib.hid (by have:=hrp [] (by simp);rw[this];rfl)
  obtain⟨A,cap,rfl,_⟩:=own_snD h.own
  have HH:=Lib.hid h
  have HR6:Hid (U.rangeAt (w.heap.size+3) 0 (stC st (.slice A st.2.length cap)).toList):=Lib.hid h.b6.range
  have HDK:=Lib.hid (And.intro hnD hKd)
  have HSO:Hid ((Tryz.prog.info? 392).map (·.size)=some (stC st (.slice A st.2.length cap)).toList.length):=Lib.hid (by show _=some 3;kernel_rfl)
  have HSO2:Hid ((Tryz.prog.info? 392).map (·.size)=some (stC st (.slice A st.2.length cap)).toList.toArray.size∧stZ.size=(stC st (.slice A st.2.length cap)).toList.toArray.size∧(stC st (.slice A st.2.length cap)).toList.toArray.all (·.oneCell')=true):=Lib.hid ⟨by show _=some 3;kernel_rfl,rfl,all_oneCell_toArray (fun u hu=>by
   simp only[stC,List.mem_cons,List.not_mem_nil,or_false] at hu
   rcases hu with rfl|rfl|rfl <;> rfl)⟩
  clear h hrp hnD hKd
  gi_wp2_with fail
  go_wp2_with (first
   | (refine ld 392 (.tmp 6) rfl rfl rfl HR6.out Tryz.underlying392 rfl HSO.out ?_)
   | (refine stBlk 392 (.tmp 4) (.tmp 56) rfl rfl rfl rfl HH.b4 HSO2.out.1 HSO2.out.2.1 HSO2.out.2.2 ?_;intro U2 hB hb ho hz2;have HB:=Lib.hid hB;have HO:=Lib.hid ho;have HBl:=Lib.hid hb;have HZ2:=Lib.hid hz2;have HB5:Hid (Blk U2 (w.heap.size+2) 42 #[.nilIface]):=Lib.hid ((ho _ (by omega)).trans HH.b5);have c5:=HB5.cell 0;have f5:=HB5.frozen 0;simp only[List.getElem?_toArray,List.getElem?_cons_zero] at c5;clear hB hb ho hz2))
  obtain⟨U3,hU3⟩:∃ U3,U3=U2.setCell ⟨w.heap.size+2,0,none⟩ .nilIface:=⟨_,rfl⟩
  rw[← hU3]
  have hoU:∀ k,k≠w.heap.size+1→k≠w.heap.size+2→U3.heap[k]? = U.heap[k]?:=fun k h1 h2=>by
   rw[hU3]
   exact(Below.heap_setCell U2 ⟨w.heap.size+2,0,none⟩ _ k h2).trans (HO.out k h1)
  have hrun:=run_takeDeferred (P:=Tryz.prog) (show U3.heap[D]? = some (.deferred (some [])) from(hoU D (by omega) (by omega)).trans HDK.out.2)
  have hK4:Blk (U3.putObj D (.deferred none)) (w.heap.size+1) 392 (stC st (.slice A st.2.length cap)).toList.toArray:=(World.putObj_heap_other (by omega)).trans (by rw[hU3];exact HB.far (by simp) _)
  have hK5:Blk (U3.putObj D (.deferred none)) (w.heap.size+2) 42 #[.nilIface]:=(World.putObj_heap_other (by omega)).trans (by rw[hU3];exact HB5.set_ 0 _)
  have hbl:Below w.heap.size w (U3.putObj D (.deferred none)):=by
   have h5:=HH.bel
   have hb:=HBl.out
   refine⟨by rw[hU3];exact hb.os.trans h5.os,by rw[hU3];exact hb.tape.trans h5.tape,by rw[hU3];exact hb.output.trans h5.output,?_,fun k hk=>(World.putObj_heap_other (by omega)).trans ((hoU k (by omega) (by omega)).trans (h5.block k hk))⟩
   rw[hU3]
   have:=h5.size
   have:=hb.size
   simp
   omega
  have hown:(U3.putObj D (.deferred none)).ownsRow w.heap.size 172 33 (.slice A st.2.length cap) st.2.length (st.2.flatMap entP):=
   own_base (own_blkS HH.own (fun k hk=>by
    have h1:=(HH.own.lt k hk).1
    exact(World.putObj_heap_other (fun e=>HDK.out.1 (by rw[← e];exact HH.ownT k hk))).trans (hoU k (by omega) (by omega)))) (by omega)
  have q0:(U3.putObj D (.deferred none)).cell? ⟨w.heap.size+1,0,none⟩=some (.bool st.1.isSome):=hK4.cell 0
  have q1:(U3.putObj D (.deferred none)).cell? ⟨w.heap.size+1,1,none⟩=some (.int .u32 (st.1.getD 0:Nat)):=hK4.cell 1
  have q2:(U3.putObj D (.deferred none)).cell? ⟨w.heap.size+1,2,none⟩=some (.slice A st.2.length cap):=hK4.cell 2
  have r5:=hK5.cell 0
  simp only[List.getElem?_toArray,List.getElem?_cons_zero] at r5
  refine⟨by simp,.inl ⟨_,_,rfl,hrun,?_⟩⟩
  refine⟨.tuple #[.agg (stC st (.slice A st.2.length cap)),.nilIface],?_,hbl,_,by rw[HFIN.out];rfl,by rw[HFIN.out];exact hown,by rw[HFIN.out];exact HH.ok⟩
  clear hK4 hK5 hbl hown hrun hoU hU3
  simp[results,Tryz.results263,go_sem,q0,q1,q2,r5,stC]
 case stop=>
  rintro D c pre T U hD hpre h hnD hKd
  have HDK:=Lib.hid (And.intro hnD hKd)
  rcases h with ⟨rfl,h⟩|⟨rfl,st,v,h,hfin⟩
  ·obtain⟨y,hy,hB5⟩:=h.ex
   have hrun:=run_takeDeferred (P:=Tryz.prog) hKd
   have hK4:Blk (U.putObj D (.deferred none)) (w.heap.size+1) 392 stZ:=(World.putObj_heap_other (by omega)).trans h.b4
   have hK5:Blk (U.putObj D (.deferred none)) (w.heap.size+2) 42 #[valE (some y)]:=(World.putObj_heap_other (by omega)).trans hB5
   have hbl:Below w.heap.size w (U.putObj D (.deferred none)):=by
    have h5:=h.bel
    exact⟨h5.os,h5.tape,h5.output,by simpa using h5.size,fun k hk=>(World.putObj_heap_other (by omega)).trans (h5.block k hk)⟩
   have q0:(U.putObj D (.deferred none)).cell? ⟨w.heap.size+1,0,none⟩=some (.bool false):=hK4.cell 0
   have q1:(U.putObj D (.deferred none)).cell? ⟨w.heap.size+1,1,none⟩=some (.int .u32 0):=hK4.cell 1
   have q2:(U.putObj D (.deferred none)).cell? ⟨w.heap.size+1,2,none⟩=some (.slice none 0 0):=hK4.cell 2
   have r5:(U.putObj D (.deferred none)).cell? ⟨w.heap.size+2,0,none⟩=some (valE (some y)):=hK5.cell 0
   have HBL:=Lib.hid hbl
   have HRUN:=Lib.hid hrun
   have HY:=Lib.hid hy
   clear h hK4 hK5 hbl hKd hrun hpre hy hB5
   gi_wp2_with fail
   refine⟨by simp,.inl ⟨_,_,rfl,HRUN.out,?_⟩⟩
   refine⟨.tuple #[.agg stZ,valE (some y)],by simp[results,Tryz.results263,go_sem,q0,q1,q2,r5,stZ],HBL.out,.slice none 0 0,by rw[HY.out];rfl,by rw[HY.out];exact World.ownsRow_nil _ _ _ _,by rw[HY.out];exact fun q hq=>by cases hq⟩
  ·have HFIN:=Lib.hid hfin
   clear hfin
   obtain⟨A,cap,rfl,_⟩:=own_snD h.own
   have HH:=Lib.hid h
   have HR6:Hid (U.rangeAt (w.heap.size+3) 0 (stC st (.slice A st.2.length cap)).toList):=Lib.hid h.b6.range
   have HDK:=Lib.hid (And.intro hnD hKd)
   have HSO:Hid ((Tryz.prog.info? 392).map (·.size)=some (stC st (.slice A st.2.length cap)).toList.length):=Lib.hid (by show _=some 3;kernel_rfl)
   have HSO2:Hid ((Tryz.prog.info? 392).map (·.size)=some (stC st (.slice A st.2.length cap)).toList.toArray.size∧stZ.size=(stC st (.slice A st.2.length cap)).toList.toArray.size∧(stC st (.slice A st.2.length cap)).toList.toArray.all (·.oneCell')=true):=Lib.hid ⟨by show _=some 3;kernel_rfl,rfl,all_oneCell_toArray (fun u hu=>by
    simp only[stC,List.mem_cons,List.not_mem_nil,or_false] at hu
    rcases hu with rfl|rfl|rfl <;> rfl)⟩
   clear h hnD hKd hpre
   gi_wp2_with fail
   go_wp2_with (first
    | (refine ld 392 (.tmp 6) rfl rfl rfl HR6.out Tryz.underlying392 rfl HSO.out ?_)
    | (refine stBlk 392 (.tmp 4) (.tmp 56) rfl rfl rfl rfl HH.b4 HSO2.out.1 HSO2.out.2.1 HSO2.out.2.2 ?_;intro U2 hB hb ho hz2;have HB:=Lib.hid hB;have HO:=Lib.hid ho;have HBl:=Lib.hid hb;have HZ2:=Lib.hid hz2;have HB5:Hid (Blk U2 (w.heap.size+2) 42 #[.nilIface]):=Lib.hid ((ho _ (by omega)).trans HH.b5);have c5:=HB5.cell 0;have f5:=HB5.frozen 0;simp only[List.getElem?_toArray,List.getElem?_cons_zero] at c5;clear hB hb ho hz2))
   obtain⟨U3,hU3⟩:∃ U3,U3=U2.setCell ⟨w.heap.size+2,0,none⟩ .nilIface:=⟨_,rfl⟩
   rw[← hU3]
   have hoU:∀ k,k≠w.heap.size+1→k≠w.heap.size+2→U3.heap[k]? = U.heap[k]?:=fun k h1 h2=>by
    rw[hU3]
    exact(Below.heap_setCell U2 ⟨w.heap.size+2,0,none⟩ _ k h2).trans (HO.out k h1)
   have hrun:=run_takeDeferred (P:=Tryz.prog) (show U3.heap[D]? = some (.deferred (some [])) from(hoU D (by omega) (by omega)).trans HDK.out.2)
   have hK4:Blk (U3.putObj D (.deferred none)) (w.heap.size+1) 392 (stC st (.slice A st.2.length cap)).toList.toArray:=(World.putObj_heap_other (by omega)).trans (by rw[hU3];exact HB.far (by simp) _)
   have hK5:Blk (U3.putObj D (.deferred none)) (w.heap.size+2) 42 #[.nilIface]:=(World.putObj_heap_other (by omega)).trans (by rw[hU3];exact HB5.set_ 0 _)
   have hbl:Below w.heap.size w (U3.putObj D (.deferred none)):=by
    have h5:=HH.bel
    have hb:=HBl.out
    refine⟨by rw[hU3];exact hb.os.trans h5.os,by rw[hU3];exact hb.tape.trans h5.tape,by rw[hU3];exact hb.output.trans h5.output,?_,fun k hk=>(World.putObj_heap_other (by omega)).trans ((hoU k (by omega) (by omega)).trans (h5.block k hk))⟩
    rw[hU3]
    have:=h5.size
    have:=hb.size
    simp
    omega
   have hown:(U3.putObj D (.deferred none)).ownsRow w.heap.size 172 33 (.slice A st.2.length cap) st.2.length (st.2.flatMap entP):=
    own_base (own_blkS HH.own (fun k hk=>by
     have h1:=(HH.own.lt k hk).1
     exact(World.putObj_heap_other (fun e=>HDK.out.1 (by rw[← e];exact HH.ownT k hk))).trans (hoU k (by omega) (by omega)))) (by omega)
   have q0:(U3.putObj D (.deferred none)).cell? ⟨w.heap.size+1,0,none⟩=some (.bool st.1.isSome):=hK4.cell 0
   have q1:(U3.putObj D (.deferred none)).cell? ⟨w.heap.size+1,1,none⟩=some (.int .u32 (st.1.getD 0:Nat)):=hK4.cell 1
   have q2:(U3.putObj D (.deferred none)).cell? ⟨w.heap.size+1,2,none⟩=some (.slice A st.2.length cap):=hK4.cell 2
   have r5:=hK5.cell 0
   simp only[List.getElem?_toArray,List.getElem?_cons_zero] at r5
   refine⟨by simp,.inl ⟨_,_,rfl,hrun,?_⟩⟩
   refine⟨.tuple #[.agg (stC st (.slice A st.2.length cap)),.nilIface],?_,hbl,_,by rw[HFIN.out];rfl,by rw[HFIN.out];exact hown,by rw[HFIN.out];exact HH.ok⟩
   clear hK4 hK5 hbl hown hrun hoU hU3
   simp[results,Tryz.results263,go_sem,q0,q1,q2,r5,stC]
end Go.Proofs.YtiaigidbcljblaaGreatDoor
