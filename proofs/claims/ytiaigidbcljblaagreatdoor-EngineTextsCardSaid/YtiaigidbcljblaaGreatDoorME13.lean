import Derived.Test.YtiaigidbcljblaaGreatDoorME12
import Derived.Test.YtiaigidbcljblaaGreatDoorME1
set_option linter.unusedSimpArgs false
set_option maxRecDepth 100000
set_option maxHeartbeats 40000000
namespace Go.Proofs.YtiaigidbcljblaaGreatDoor
section
open Go.RowKit
section
variable {F : Fence} {n : Nat} {P : Program} {ops : Array Oper} {rest : List Oper} {o : Oper} {a : Act} {w : World} {Q : Exit → Act → World → Prop}
theorem iVal{v:Value}{w':World}(hF:∀ f,F.fn f)(hs:∀ ρ,o.semAt F.round ρ=execOp ρ o)(hw:Region.wanted o (yielded ops a.tmps)=true)(hrun:(execOp a.eval o).run P w = .ok (.value v) w')
  (h:wpListIn F n P ops Q rest (a.put o.dst v) w'):wpListIn F n P ops Q (o :: rest) a w:=
 wpListIn_step fun K hK=>by
  rw[if_pos hw]
  refine⟨fun f _=>hF f,?_⟩
  rw[hs,hrun]
  exact hK _ _ h
theorem iSkp{w':World}(hF:∀ f,F.fn f)(hs:∀ ρ,o.semAt F.round ρ=execOp ρ o)(hw:Region.wanted o (yielded ops a.tmps)=true)(hrun:(execOp a.eval o).run P w = .ok .skip w')
  (h:wpListIn F n P ops Q rest (a.put o.dst undef) w'):wpListIn F n P ops Q (o :: rest) a w:=
 wpListIn_step fun K hK=>by
  rw[if_pos hw]
  refine⟨fun f _=>hF f,?_⟩
  rw[hs,hrun]
  exact hK _ _ h
theorem iLd(ty:TypeId)(x:Operand)(ho:o.op = .load ty x)(hF:∀ f,F.fn f)(hw:Region.wanted o (yielded ops a.tmps)=true)
  {b off:Nat} (hx:a.eval x = .pointer (some ⟨b,off,none⟩)) {cs:List Value} {d:TypeDesc} (hc:w.rangeAt b off cs)
  (hu:P.underlying ty=some d) (hd:d.isRow=true) (hi:(P.info? ty).map (·.size)=some cs.length)
  (h:wpListIn F n P ops Q rest (a.put o.dst (.agg cs.toArray)) w):wpListIn F n P ops Q (o :: rest) a w:=by
 refine iVal hF (fun ρ=>Oper.semAt_eq _ _ _ (fun c=>by rw[ho];exact fun e=>by cases e)) hw ?_ h
 unfold execOp
 simp only[ho,hx,Instr.loadAt,Instr.sureAddr,Sem.run_bind,Sem.run_pure,Result.andThen_ok,run_loadVar_mid w b off ty cs d hc hu hd hi]
theorem iSt(ty:TypeId)(x y:Operand)(ho:o.op = .store ty x y)(hF:∀ f,F.fn f)(hw:Region.wanted o (yielded ops a.tmps)=true)
  {g t:Nat} {old cells:Array Value} (hx:a.eval x = .pointer (some ⟨g,0,none⟩)) (hy:a.eval y = .agg cells) (hB:Blk w g t old)
  (hi:(P.info? ty).map (·.size)=some cells.size) (hold:old.size=cells.size) (h1:cells.all (·.oneCell')=true)
  (h:∀ w2,Blk w2 g t cells→Below g w w2→(∀ g',g'≠g→w2.heap[g']? = w.heap[g']?)→w2.heap.size=w.heap.size→wpListIn F n P ops Q rest (a.put o.dst undef) w2):
  wpListIn F n P ops Q (o :: rest) a w:=by
 refine iSkp (w':=w.setRow g cells) hF (fun ρ=>Oper.semAt_eq _ _ _ (fun c=>by rw[ho];exact fun e=>by cases e)) hw ?_ ?_
 ·unfold execOp
  simp only[ho,hx,hy,Instr.storeAt,Instr.sureAddr,Sem.run_bind,Sem.run_pure,Result.andThen_ok,run_storeVar_row w g t ty old cells hB hi hold h1]
 ·exact h _ (setRow_heap w g old cells t (0,0) hB) ⟨rfl,rfl,rfl,by simp,fun k hk=>setRow_other w g k cells (by omega)⟩ (fun g' hg=>setRow_other w g g' cells hg) (by simp)
theorem iStNew(ty:TypeId)(x y:Operand)(ho:o.op = .store ty x y)(hF:∀ f,F.fn f)
  {old cells:Array Value} {t:TypeId} (hw:Region.wanted o (yielded ops a.tmps)=true) (hx:a.eval x = .pointer (some ⟨w.heap.size,0,none⟩)) (hy:a.eval y = .agg cells)
  (hi:(P.info? ty).map (·.size)=some cells.size) (hold:old.size=cells.size) (h1:cells.all (·.oneCell')=true)
  (h:∀ w2,w2=w.alloc (.cells cells t)→wpListIn F n P ops Q rest (a.put o.dst undef) w2):wpListIn F n P ops Q (o :: rest) a (w.alloc (.cells old t)):=by
 refine iSkp (w':=w.alloc (.cells cells t)) hF (fun ρ=>Oper.semAt_eq _ _ _ (fun c=>by rw[ho];exact fun e=>by cases e)) hw ?_ (h _ rfl)
 unfold execOp
 simp only[ho,hx,hy,Instr.storeAt,Instr.sureAddr,Sem.run_bind,Sem.run_pure,Result.andThen_ok,run_storeVar_row (w.alloc (.cells old t)) w.heap.size t ty old cells (heap_alloc_new w _) hi hold h1]
 rw[setRow_alloc]
theorem iAl(ty:TypeId)(zs:Array Value)(ho:o.op = .alloc ty)(hF:∀ f,F.fn f)(hw:Region.wanted o (yielded ops a.tmps)=true)(hz:∀ w,(zeroValue ty).run P w = .ok (.agg zs) w)
  (h:wpListIn F n P ops Q rest (a.put o.dst (.pointer (some ⟨w.heap.size,0,none⟩))) (w.alloc (.cells zs ty))):wpListIn F n P ops Q (o :: rest) a w:=by
 refine iVal (v:=.pointer (some ⟨w.heap.size,0,none⟩)) (w':=w.alloc (.cells zs ty)) hF (fun ρ=>Oper.semAt_eq _ _ _ (fun c=>by rw[ho];exact fun e=>by cases e)) hw ?_ h
 unfold execOp
 simp only[ho]
 unfold Instr.alloc newVar newRow
 simp[Sem.run_bind,hz,Value.cells]
theorem iApp{t e s bytes:Nat}(T:SlT P t e s bytes)(p q:Operand)(hF:∀ f,F.fn f)
  (ho:o.op = .call { callee:=.builtin .append,args:=#[p,q],argTypes:=#[t,t] }) (hw:Region.wanted o (yielded ops a.tmps)=true)
  {base k m:Nat} {v x:Value} {xs news:List Value} (hv:a.eval p=v) (hown:w.ownsRow base e s v k xs) (hxv:a.eval q=x) (hx:Sn w s x m news)
  (h1:∀ u∈news,u.oneCell'=true) (h63:k+m≤maxLen) (hbytes:(k+m)*bytes≤140737488355328) (hbase:base≤w.heap.size)
  (h:∀ v' w',w'.ownsRow base e s v' (k+m) (xs++news)→w.grownBy w' v.ownBlock→(v'.ownBlock=v.ownBlock∨v'.ownBlock=some w.heap.size)→wpListIn F n P ops Q rest (a.put o.dst v') w'):
  wpListIn F n P ops Q (o :: rest) a w:=by
 obtain⟨v',w',hrun,h2,h3,h4⟩:=run_append_sn (ty:=o.type) T hown hx h1 h63 hbytes hbase
 refine iVal (v:=v') (w':=w') hF (fun ρ=>Oper.semAt_eq _ _ _ (fun c=>by rw[ho];exact fun e=>by cases e)) hw ?_ (h v' w' h2 h3 h4)
 unfold execOp
 simp only[ho,resolve,invoke,builtin,Sem.run_bind,Sem.run_pure,Result.andThen_ok,List.map_toArray,List.map_cons,List.map_nil,hv,hxv,hrun]
end
theorem wide_fn(f:FuncId):Fence.wide.fn f:=trivial
theorem round_fn(l:Nat)(f:FuncId):(Fence.wide.inRound l).fn f:=trivial
theorem inR{P:Program}{n:Nat}{f:FuncId}{args:Array Value}{w:World}{R:Ending→World→Prop}(l:Nat)(h:Calls P f args w R):CallsIn (Fence.wide.inRound l) n P f args w R:=CallsIn.inRound l (callsIn_wide.2 h)
theorem calls_marks{P:Program}{f:FuncId}{fn:Func}{c:Code}{args:Array Value}{w:World}{R:Ending→World→Prop}(hf:P.funcs[f]? = some fn)(hb:fn.body=some c)
  (h:c.wpIn Fence.wide 9 P (bodyPostM Fence.wide 9 P fn R) { tmps:=args++Array.replicate (fn.ntmps-args.size) undef,defers:=[] } w):Calls P f args w R:=
 callsIn_wide.1 (callsIn_of_wp_marks hf hb trivial h)
end
section
open Go.RowKit
attribute [local irreducible] wpQuiet wpAnyH
attribute [local go_sem] Oper.semAt_some
theorem Turn.blk{T T':Terr}{W W':World}(h:Turn T W T' W'){g:Nat}{t:TypeId}{cs:Array Value}(hB:Blk W g t cs)(hg:¬T g):Blk W' g t cs:=(h.block g hB.lt hg).trans hB
theorem Lies.blk{T:Terr}{W W':World}(h:Lies T W W'){g:Nat}{t:TypeId}{cs:Array Value}(hB:Blk W g t cs)(hg:T g):Blk W' g t cs:=(h.block g hB.lt hg).trans hB
def rdA(d:DiskD)(a:Int):Ans:=if d.down then some (12,none) else if hasB d a then none else some (15,some a)
theorem rdE_val(d:DiskD)(a:Int):rdE d a=valE (rdA d a):=by
 unfold rdE rdA
 split;· rfl
 split <;> rfl
def secsL(d:DiskD)(a:Int):Nat→List (List Int×Ans)
 | 0=>[]
 | n+1=>(rdS d a,rdA d a) :: if rdA d a=none then secsL d (a+1) n else []
def encS(x:List Int×Ans):Array Value:=#[.agg (u8s x.1).toArray,valE x.2]
theorem rdS_sec{d:DiskD}(h:DOk d)(a:Int):Sec (rdS d a):=by
 unfold rdS
 split
 ·exact zsec_sec
 ·split
  ·rename_i hb
   unfold hasB at hb
   simp at hb
   exact rdD_sec h a hb.1 hb.2
  ·exact zsec_sec
def XS(N gs gd:Nat):Terr:=fun k=>k<N∨k=gs∨k=gd
structure SIt(wN:World)(gs gd:Nat)(f z:Int)(g:Nat)(T:Terr)(wr:World):Prop where
 bs:Blk wr gs 324 #[.int .i64 f,.int .i64 z]
 bd:Blk wr gd 78 #[.pointer (some ⟨g,0,none⟩)]
 bel:Below wN.heap.size wN wr
 nT:∀ k,T k→¬XS wN.heap.size gs gd k
theorem secs_seq(f:Int)(z:Nat)(wN:World)(m:DiskM)(d:DiskD)(gs gd:Nat)(w:World)(hK:DK wN m d)(hb:Below wN.heap.size wN w)(h1:Blk w gs 324 #[.int .i64 f,.int .i64 z])(h2:Blk w gd 78 #[.pointer (some ⟨m.g,0,none⟩)])
  (hgs:wN.heap.size≤gs∧wN.heap.size≤gd) (hf:0≤f∧f≤100000) (hz:z≤100000):
  SeqZ Fence.wide 9 Tryz.prog 328 #[.pointer (some ⟨gs,0,none⟩),.pointer (some ⟨gd,0,none⟩)] encS (XS wN.heap.size gs gd) (fun _=>False) (secsL d f z) w:=by
 intro ly J Jx T0 W hW hly1 hly2 hJ hJx hJT hY hT0 h0 _
 have HI0:Hid (SIt wN gs gd f z m.g T0 W):=Lib.hid ⟨h1.keep hW,h2.keep hW,bstep hb hW,hT0⟩
 have hsz1:=h1.lt
 have hsz2:=h2.lt
 have HNE:=Lib.hid (show gs≠ly∧gd≠ly∧wN.heap.size≤ly by have:=hb.size;omega)
 have HJ0:=Lib.hid h0
 have HK:=Lib.hid hK
 have HGS:=Lib.hid hgs
 have hf1:0≤f:=hf.1
 have hf2:f≤100000:=hf.2
 clear h1 h2 hT0 h0 hK hb hgs hf
 refine callsIn_of_wp Tryz.func328 rfl trivial ?_ rfl
 simp only[Tryz.ntmps328,List.size_toArray,List.length_cons,List.length_nil,Nat.reduceAdd,Nat.reduceSub,Array.replicate_succ,Array.replicate_zero,List.push_toArray,List.append_toArray,List.nil_append,List.cons_append]
 refine wpIn_wide.2 ?_
 have c1:=HI0.bs.cell 1
 simp only[List.getElem?_toArray,List.getElem?_cons_succ,List.getElem?_cons_zero] at c1
 have hz0:(0:Int)≤z:=by omega
 go_wp2_with fail
 clear c1
 go_loopw [9] (fun i wr=>∃(k:Nat) (pre:List (List Int×Ans)) (T:Terr),k≤z∧i = .int .i64 k∧Hid (J pre T wr)∧Hid (SIt wN gs gd f z m.g T wr)∧Hid (secsL d f z=pre++secsL d (f+k) (z-k))) (fun i _=>z-(intOf i).toNat)
 case atStart=>exact⟨0,[],T0,Nat.zero_le _,rfl,HJ0,HI0,Lib.hid (by simp)⟩
 case round=>
  clear HJ0 HI0
  obtain⟨k,pre,T,hk,rfl,HJ,HI,HL⟩:=hrel
  rcases Nat.lt_or_ge k z with hlt|hge
  ·have c0:=HI.bs.cell 0
   have d0:=HI.bd.cell 0
   simp only[List.getElem?_toArray,List.getElem?_cons_zero] at c0 d0
   have HKr:Hid (DK wr m d):=Lib.hid (HK.keep HI.bel)
   have hll:secsL d (f+k) (z-k)=(rdS d (f+k),rdA d (f+k)) :: if rdA d (f+k)=none then secsL d (f+k+1) (z-(k+1)) else []:=by
    rw[show z-k=(z-(k+1))+1 by omega];rfl
   have HLL:=Lib.hid hll
   obtain⟨S,hS⟩:∃ S,S=rdS d (f+k):=⟨_,rfl⟩
   have HSS:Hid (Sec S):=Lib.hid (by rw[hS];exact rdS_sec HKr.ok _)
   have HSZ:Hid ((Tryz.prog.info? 243).map (·.size)=some (u8s S).toArray.size∧z64.size=(u8s S).toArray.size∧(Tryz.prog.info? 243).map (·.size)=some (u8s S).length):=Lib.hid ⟨by rw[List.size_toArray,sec_length HSS.out];kernel_rfl,by rw[z64_size,List.size_toArray,sec_length HSS.out],by rw[sec_length HSS.out];kernel_rfl⟩
   have HSO:=Lib.hid (u8s_one S)
   have hi0:(0:Int)≤k:=by omega
   have hi1:(k:Int)<z:=by omega
   obtain⟨x,hx⟩:∃ x,x=rdA d (f+k):=⟨_,rfl⟩
   have HRD:Hid (Calls Tryz.prog 261 #[.pointer (some ⟨m.g,0,none⟩),.int .i64 (f+k)] wr fun e w'=>e = .returned (.tuple #[.agg (u8s S).toArray,valE x])∧Below wr.heap.size wr w'):=Lib.hid (by
    rw[hS,hx,← rdE_val]
    exact disk_read (f+k) wr m d HKr.out ⟨by omega,by omega⟩)
   have hpre:pre++[(S,x)] <+: secsL d f z:=by rw[HL.out,hll,hS,hx];exact⟨if rdA d (f+k)=none then secsL d (f+k+1) (z-(k+1)) else [],by simp⟩
   have HPRE:=Lib.hid hpre
   have HEX:Hid (x≠none→secsL d f z=pre++[(S,x)]):=Lib.hid (fun hn=>by rw[HL.out,hll,hS,hx,if_neg (by rw[← hx];exact hn)])
   have HNX:Hid (x=none→secsL d f z=(pre++[(S,x)])++secsL d (f+((k+1:Nat):Int)) (z-(k+1))):=Lib.hid (fun hn=>by
    rw[HL.out,hll,hS,hx,if_pos (by rw[← hx];exact hn)]
    have:f+(k:Int)+1=f+((k+1:Nat):Int):=by omega
    rw[this];simp)
   clear hll HLL hS hx hpre HL HKr
   go_upto_region 4 with (first
    | (go_at_call 261;refine HRD.mono ?_;rintro e w1 ⟨rfl,hb1⟩;have HB1:=Lib.hid hb1;clear hb1)
    | (refine al 243 z64 rfl rfl zero64 ?_)
    | (refine stNew 243 (.tmp 5) (.tmp 19) rfl rfl rfl rfl HSZ.out.1 HSZ.out.2.1 HSO.out ?_;intro w2 hK2 hb2 hz2;have HB2:=Lib.hid hb2;have HR2:Hid (w2.rangeAt w1.heap.size 0 (u8s S)):=Lib.hid (by have:=Blk.range (show Blk w2 w1.heap.size 243 (u8s S).toArray from hK2);rw[List.toList_toArray] at this;exact this);have HZ2:=Lib.hid hz2;clear hK2 hb2 hz2))
   have HBL:Hid (Below wr.heap.size wr w2):=Lib.hid (bstep HB1.out HB2.out)
   have hJ1:J pre T w2:=hJ _ _ _ _ HJ.out (Lies.of_below HBL.out)
   obtain⟨fn,tmps,assign,body,hy,hR⟩:=hY _ _ T w2 HPRE.out hJ1
   have HBS:=Lib.hid (HI.bs.keep HBL.out)
   have HBD:=Lib.hid (HI.bd.keep HBL.out)
   have HBE:Hid (Below wN.heap.size wN w2):=Lib.hid (bstep HI.bel HBL.out)
   dsimp only [encS] at hy
   refine(wpIn_wide (n:=9)).1 ?_
   gi_wp2_with (refine iLd 243 _ rfl wide_fn rfl rfl HR2.out Tryz.underlying243 rfl HSZ.out.2.2 ?_)
   refine hR.mono ?_
   rintro e wD ⟨T',hT,⟨rfl,hJD⟩|⟨rfl,hJD⟩⟩
   ·have hnX:∀ k,(T k∨k=ly)→¬XS wN.heap.size gs gd k:=fun j h hx=>h.elim (fun h=>HI.nT j h hx) (fun e=>by
     have h1:=HNE.out
     subst e
     rcases hx with hx|hx|hx
     ·omega
     ·exact h1.1 hx.symm
     ·exact h1.2.1 hx.symm)
    have hsN:=HBE.size
    have hs1:=HBS.lt
    have hs2:=HBD.lt
    have HID:Hid (SIt wN gs gd f z m.g T' wD):=Lib.hid ⟨hT.blk HBS.out (fun h=>hnX _ h (.inr (.inl rfl))),hT.blk HBD.out (fun h=>hnX _ h (.inr (.inr rfl))),
     ⟨hT.os.trans HBE.os,hT.tape.trans HBE.tape,hT.output.trans HBE.output,Nat.le_trans HBE.size hT.size,fun j hj=>(hT.block j (by omega) (fun h=>hnX _ h (.inl hj))).trans (HBE.block j hj)⟩,
     fun j hj hx=>(hT.sub j hj).elim (fun h=>hnX j h hx) (fun h=>by
      rcases hx with hx|hx|hx <;> omega)⟩
    have HJD:=Lib.hid hJD
    clear hR hy hT hnX hsN hs1 hs2 hJD hJ1 hY
    cases x with
    | none=>
     have hv:valE none = .nilIface:=rfl
     rw[hv]
     gi_wp2_with fail
     go_wp2_with fail
     exact⟨⟨k+1,_,T',by omega,by go_num,HJD,HID,Lib.hid (HNX.out (by simp))⟩,by simp[intOf];omega⟩
    | some y=>
     obtain⟨t,u,hv⟩:=valE_form y
     rw[hv]
     have hne:=neq_nil t u
     clear hv
     gi_wp2_with fail
     go_wp2_with fail
     refine bodyPost_ret (results_none rfl _ _ _) rfl ?_
     exact⟨⟨_,rfl⟩,T',.inl (by rw[HEX.out (by simp)];exact HJD.out)⟩
   ·have HJD:=Lib.hid hJD
    clear hR hy hT hJD hJ1 hY
    gi_wp2_with fail
    go_wp2_with fail
    refine bodyPost_ret (results_none rfl _ _ _) rfl ?_
    exact⟨⟨_,rfl⟩,T',.inr ⟨_,HPRE.out,HJD.out⟩⟩
  ·obtain rfl:k=z:=by omega
   have HF:Hid (J (secsL d f k) T wr):=Lib.hid (by rw[HL.out,Nat.sub_self];show J (pre++[]) T wr;rw[List.append_nil];exact HJ.out)
   clear HL HJ
   go_wp2_with fail
   go_end0
   exact⟨⟨_,rfl⟩,T,.inl HF.out⟩
end
section
open Go.RowKit
attribute [local irreducible] wpQuiet wpAnyH
theorem round_any{P:Program}{n m l f:Nat}{tmps:Array Value}{assign body:Code}{w:World}{R:Ending→World→Prop}(h:RoundIn Fence.wide n P l f tmps assign body w R):RoundIn Fence.wide m P l f tmps assign body w R:=
 ⟨trivial,fun c cs _=>h.2 c cs (room_wide _)⟩
theorem yield_any{P:Program}{n m l:Nat}{args:Array Value}{w:World}{R:Ending→World→Prop}(h:YieldAt Fence.wide n P l args w R):YieldAt Fence.wide m P l args w R:=by
 obtain⟨fn,tmps,assign,body,h1,h2⟩:=h
 exact⟨fn,tmps,assign,body,h1,round_any h2⟩
theorem SeqZ.any{inf:Prop}{P:Program}{α:Type}{n m g:Nat}{lb:Array Value}{encs:α→Array Value}{X Z:Terr}{all:List α}{w:World}(h:SeqY inf Fence.wide n P g lb encs X Z all w):SeqY inf Fence.wide m P g lb encs X Z all w:=
 fun l J Jx T0 W a1 a2 a3 a4 a5 a6 a7 a8 a9 a10=>callsIn_wide.2 (callsIn_wide.1 (h l J Jx T0 W a1 a2 a3 a4 a5 a6 (fun pre x T W1 b1 b2=>yield_any (a7 pre x T W1 b1 b2)) a8 a9 a10))
abbrev Ent2:=List Int×Int
abbrev SSt:=Option Nat×List Ent2
def stepS(st:SSt)(s:List Int):Option SSt:=match st.1 with
 | none=>(prsH s).map (fun g=>(some g,[]))
 | some g=>match prsE s with|some (g',e)=>if g'=g then some (some g,st.2++[e]) else none|none=>none
def scanR:SSt→List (List Int×Ans)→SSt×Ans
 | st,[]=>(st,none)
 | _,(_,some y) :: _=>((none,[]),some y)
 | st,(s,none) :: r=>match stepS st s with|some st'=>scanR st' r|none=>(st,none)
def RunS(all:List (List Int×Ans))(pre:List (List Int×Ans))(st:SSt):Prop:=∀ rest,all=pre++rest→scanR (none,[]) all=scanR st rest
def stZ:Array Value:=#[.bool false,.int .u32 0,.slice none 0 0]
theorem zeroS:∀ w,(zeroValue 392).run Tryz.prog w = .ok (.agg stZ) w:=fun w=>by unfold stZ;kernel_rfl
theorem builtS:Tryz.prog.built 392 []=some stZ:=by unfold stZ;kernel_rfl
def stC(st:SSt)(v:Value):Array Value:=#[.bool st.1.isSome,.int .u32 (st.1.getD 0:Nat),v]
theorem prsE_ok{s:List Int}(hb:Bys s){g:Nat}{e:Ent2}(h:prsE s=some (g,e)):EntOk e:=by
 unfold prsE at h
 cases hp:prs s with
 | none=>rw[hp] at h;cases h
 | some x=>
  obtain⟨g',p⟩:=x
  rw[hp] at h
  simp only at h
  split at h
  ·rename_i hc
   injection h with h
   injection h with _ h
   rw[← h]
   refine⟨⟨by show(p.take 32).length=32;rw[List.length_take];omega,fun b hb'=>prs_bys hb hp b (List.mem_of_mem_take hb')⟩,?_⟩
   show isI64 ((beN (p.drop 32):Nat):Int)
   exact⟨by omega,by omega⟩
  ·cases h
theorem stepS_len{st st':SSt}{s:List Int}(h:stepS st s=some st'):st'.2.length≤st.2.length+1∧st'.1≠none:=by
 unfold stepS at h
 cases h1:st.1 with
 | none=>
  rw[h1] at h
  simp only[Option.map_eq_some_iff] at h
  obtain⟨g,_,rfl⟩:=h
  simp
 | some g=>
  rw[h1] at h
  simp only at h
  split at h
  ·split at h
   ·injection h with h;rw[← h];simp
   ·cases h
  ·cases h
theorem secsL_sec{d:DiskD}(h:DOk d):∀(n:Nat) (a:Int),∀ x∈secsL d a n,Sec x.1
 | 0,_,x,hx=>by cases hx
 | n+1,a,x,hx=>by
  unfold secsL at hx
  rcases List.mem_cons.1 hx with rfl|hx
  ·exact rdS_sec h a
  ·split at hx
   ·exact secsL_sec h n _ x hx
   ·cases hx
theorem secsL_len(d:DiskD):∀(n:Nat) (a:Int),(secsL d a n).length≤n
 | 0,_=>Nat.le_refl _
 | n+1,a=>by
  unfold secsL
  rw[List.length_cons]
  split
  ·have:=secsL_len d n (a+1);omega
  ·simp
theorem own_blkS{w w':World}{base e s n:Nat}{v:Value}{xs:List Value}(h:w.ownsRow base e s v n xs)(hb:∀ b,v.ownBlock=some b→w'.heap[b]? = w.heap[b]?):w'.ownsRow base e s v n xs:=by
 refine⟨h.1,?_⟩
 rcases h.2 with h2|⟨g,cap,cur,rfl,hg,hh,r⟩
 ·exact .inl h2
 ·exact .inr ⟨g,cap,cur,rfl,hg,by rw[hb g rfl];exact hh,r⟩
structure SS(w:World)(N:Nat)(k:Nat)(st:SSt)(v:Value)(T:Terr)(U:World):Prop where
 b4:Blk U (N+1) 392 stZ
 b5:Blk U (N+2) 42 #[.nilIface]
 b6:Blk U (N+3) 392 (stC st v)
 own:U.ownsRow (N+6) 172 33 v st.2.length (st.2.flatMap entP)
 ownT:∀ j,v.ownBlock=some j→T j
 bel:Below N w U
 tin:T (N+1)∧T (N+2)∧T (N+3)
 tsub:∀ j,T j→j=N+1∨j=N+2∨j=N+3∨N+6≤j
 tlt:∀ j,T j→j<U.heap.size
 size:N+6≤U.heap.size
 ok:∀ q∈st.2,EntOk q
 len:st.2.length≤k
 nil:st.1=none→st.2=[]∧v = .slice none 0 0
theorem SS.stab{w:World}{N k:Nat}{st:SSt}{v:Value}{T:Terr}{A B:World}(h:SS w N k st v T A){M:Nat}(hM:N+6≤M)(hl:Lies (fun k=>T k∨(k<M∧¬False)) A B):SS w N k st v T B where
 b4:=hl.blk h.b4 (.inl h.tin.1)
 b5:=hl.blk h.b5 (.inl h.tin.2.1)
 b6:=hl.blk h.b6 (.inl h.tin.2.2)
 own:=own_blkS h.own (fun j hj=>hl.block j (h.own.lt j hj).2 (.inl (h.ownT j hj)))
 ownT:=h.ownT
 bel:=⟨hl.os.trans h.bel.os,hl.tape.trans h.bel.tape,hl.output.trans h.bel.output,Nat.le_trans h.bel.size hl.size,fun j hj=>(hl.block j (by have:=h.size;omega) (.inr ⟨by omega,fun h=>h⟩)).trans (h.bel.block j hj)⟩
 tin:=h.tin
 tsub:=h.tsub
 tlt:=fun j hj=>Nat.lt_of_lt_of_le (h.tlt j hj) hl.size
 size:=Nat.le_trans h.size hl.size
 ok:=h.ok
 len:=h.len
 nil:=h.nil
theorem sectors_any(g:Nat)(f z:Int)(w:World):
  Calls Tryz.prog 309 #[.pointer (some ⟨g,0,none⟩),.agg #[.int .i64 f,.int .i64 z]] w fun e w'=>e = .returned (.func (.func 328) #[] #[.pointer (some ⟨w.heap.size+1,0,none⟩),.pointer (some ⟨w.heap.size,0,none⟩)])∧w'=(w.alloc (.cells #[.pointer (some ⟨g,0,none⟩)] 78)).alloc (.cells #[.int .i64 f,.int .i64 z] 324):=by
 go_enter Tryz.func309,Tryz.ntmps309
 go_wp2_with fail
 go_ret
 exact⟨rfl,rfl⟩
end
end Go.Proofs.YtiaigidbcljblaaGreatDoor
