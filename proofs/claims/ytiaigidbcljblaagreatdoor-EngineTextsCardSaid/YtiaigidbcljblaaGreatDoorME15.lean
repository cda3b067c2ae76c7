import Derived.Test.YtiaigidbcljblaaGreatDoorME11
import Derived.Test.YtiaigidbcljblaaGreatDoorME14
import Derived.Test.YtiaigidbcljblaaGreatDoorME7
import Derived.Test.YtiaigidbcljblaaGreatDoorME9
import Derived.Test.YtiaigidbcljblaaGreatDoorME5
import Derived.Test.YtiaigidbcljblaaGreatDoorME12
import Derived.Test.YtiaigidbcljblaaGreatDoorME2
set_option linter.unusedSimpArgs false
set_option maxRecDepth 100000
set_option maxHeartbeats 40000000
namespace Go.Proofs.YtiaigidbcljblaaGreatDoor
section
open Go.RowKit
attribute [local irreducible] wpQuiet wpAnyH
structure St(w0 w:World)(m:DiskM)(d:DiskD):Prop where
 dk:DK w m d
 ft:∀ k∈foot m,w0.heap.size≤k
 bel:Below w0.heap.size w0 w
def Apart(m:DiskM)(g:Nat):Prop:=g ∉ foot m∧∀ k,isI64 k→∀ v,m.cv k=some v→v.ownBlock≠some g
theorem Apart.next{w w':World}{m m':DiskM}{g:Nat}(h:Apart m g)(hg:g<w.heap.size)(ht:DT w m w' m'):Apart m' g:=
 ⟨fun hm=>by
  rcases ht.sub g hm with hm|hm
  ·exact h.1 hm
  ·omega,fun k hk v hv e=>by
  rcases ht.cv k v hv with h1|h1
  ·exact h.2 k hk v h1 e
  ·have:=h1 g e;omega⟩
theorem DK.cv_lt{w:World}{m:DiskM}{d:DiskD}(h:DK w m d){k:Int}(hk:isI64 k){v:Value}(hv:m.cv k=some v):∀ b,v.ownBlock=some b→b<w.heap.size:=fun b e=>by
 have:=h.crv k hk
 cases hc:d.cr k with
 | none=>rw[hc] at this;rw[this] at hv;cases hv
 | some cs=>
  rw[hc] at this
  obtain⟨v2,h1,_,h3⟩:=this
  rw[hv] at h1
  injection h1 with h1
  subst h1
  exact(h3 b e).2
theorem Apart.fresh{w:World}{m:DiskM}{d:DiskD}{g:Nat}(h:DK w m d)(hg:w.heap.size≤g):Apart m g:=
 ⟨h.notFoot hg,fun k hk v hv e=>by have:=h.cv_lt hk hv g e;omega⟩
theorem DK.offK{w w':World}{m:DiskM}{d:DiskD}{b:Nat}(h:DK w m d)(hk:∀ k,k≠b→w'.heap[k]? = w.heap[k]?)(hs:w.heap.size≤w'.heap.size)(ha:Apart m b):DK w' m d where
 blk:=(hk m.g (fun e=>ha.1 (e ▸ foot_g m))).trans h.blk
 sec:=own_blk h.sec fun x hx=>hk x (fun e=>ha.1 (e ▸ foot_sv hx))
 opn:=own_blk h.opn fun x hx=>hk x (fun e=>ha.1 (e ▸ foot_ov hx))
 last:=h.last.of_block (hk _ (fun e=>ha.1 (e ▸ foot_bl m)))
 fl:=h.fl.of_block (hk _ (fun e=>ha.1 (e ▸ foot_bf m)))
 cr:=h.cr.of_block (hk _ (fun e=>ha.1 (e ▸ foot_bc m)))
 nd:=h.nd
 flv:=h.flv
 crv:=fun k hi=>by
  have:=h.crv k hi
  cases hc:d.cr k with
  | none=>rw[hc] at this;exact this
  | some cs=>
   rw[hc] at this
   obtain⟨v,h1,h2,h3⟩:=this
   refine⟨v,h1,?_,fun b hb=>⟨(h3 b hb).1,Nat.lt_of_lt_of_le (h3 b hb).2 hs⟩⟩
   have hne:=ha.2 k hi v h1
   obtain⟨A,cap,rfl,q1,q2,hx⟩:=h2
   refine⟨A,cap,rfl,q1,q2,fun hp=>?_⟩
   obtain⟨g,o,rfl,hcell⟩:=hx hp
   exact⟨g,o,rfl,fun j u hj=>(World.cell?_of_block (a:=⟨g,o+j,none⟩) (hk g (fun e=>hne (by rw[e];rfl)))).trans (hcell j u hj)⟩
 ok:=h.ok
structure LB(w:World)(m:DiskM)(g:Nat)(t:TypeId)(cs:Array Value):Prop where
 blk:Blk w g t cs
 nf:g ∉ foot m
structure LS(w:World)(m:DiskM)(s:Nat)(v:Value)(n:Nat)(xs:List Value):Prop where
 sn:Sn w s v n xs
 nf:∀ b,v.ownBlock=some b→b ∉ foot m∧b<w.heap.size
theorem St.keep{w0 w w':World}{m:DiskM}{d:DiskD}(h:St w0 w m d)(hb:Below w.heap.size w w'):St w0 w' m d:=⟨h.dk.keep hb,h.ft,bstep h.bel hb⟩
theorem St.next{w0 w w':World}{m m':DiskM}{d d':DiskD}(h:St w0 w m d)(hk:DK w' m' d')(ht:DT w m w' m'):St w0 w' m' d':=
 ⟨hk,ht.le h.ft h.bel.size,h.bel.trans (ht.below h.ft h.bel.size)⟩
theorem St.drew{w0 w:World}{m:DiskM}{d:DiskD}(h:St w0 w m d)(n:Nat):St w0 (w.drewN n) m d:=h.keep (bdrewN (Below.refl _ _) n)
theorem LB.keep{w w':World}{m:DiskM}{g:Nat}{t:TypeId}{cs:Array Value}(h:LB w m g t cs)(hb:Below w.heap.size w w'):LB w' m g t cs:=⟨h.blk.keep hb,h.nf⟩
theorem LB.next{w w':World}{m m':DiskM}{g:Nat}{t:TypeId}{cs:Array Value}(h:LB w m g t cs)(ht:DT w m w' m'):LB w' m' g t cs:=
 ⟨(ht.off h.blk.lt h.nf).trans h.blk,fun hm=>by
  rcases ht.sub g hm with hm|hm
  ·exact h.nf hm
  ·have:=h.blk.lt;omega⟩
theorem LB.old{w0 w:World}{m:DiskM}{d:DiskD}{g:Nat}{t:TypeId}{cs:Array Value}(h:St w0 w m d)(hb:Blk w0 g t cs):LB w m g t cs:=
 ⟨hb.keep h.bel,fun hm=>by have:=h.ft g hm;have:=hb.lt;omega⟩
theorem LB.fresh{w w':World}{m:DiskM}{d:DiskD}{g:Nat}{t:TypeId}{cs:Array Value}(h:DK w m d)(hg:w.heap.size≤g)(hb:Blk w' g t cs):LB w' m g t cs:=⟨hb,h.notFoot hg⟩
theorem LS.keep{w w':World}{m:DiskM}{s n:Nat}{v:Value}{xs:List Value}(h:LS w m s v n xs)(hb:Below w.heap.size w w'):LS w' m s v n xs:=
 ⟨h.sn.below hb,fun b e=>⟨(h.nf b e).1,Nat.lt_of_lt_of_le (h.nf b e).2 hb.size⟩⟩
theorem LS.next{w w':World}{m m':DiskM}{s n:Nat}{v:Value}{xs:List Value}(h:LS w m s v n xs)(ht:DT w m w' m'):LS w' m' s v n xs:=
 ⟨ht.fo.sn h.sn (fun b e=>(h.nf b e).1),fun b e=>⟨fun hm=>by
  rcases ht.sub b hm with hm|hm
  ·exact(h.nf b e).1 hm
  ·have:=(h.nf b e).2;omega,Nat.lt_of_lt_of_le (h.nf b e).2 ht.fo.size⟩⟩
theorem LS.old{w0 w:World}{m:DiskM}{d:DiskD}{s n:Nat}{v:Value}{xs:List Value}(h:St w0 w m d)(hs:Sn w0 s v n xs)(hl:∀ b,v.ownBlock=some b→b<w0.heap.size):LS w m s v n xs:=
 ⟨hs.below h.bel,fun b e=>⟨fun hm=>by have:=h.ft b hm;have:=hl b e;omega,Nat.lt_of_lt_of_le (hl b e) h.bel.size⟩⟩
theorem LS.own{w w':World}{m:DiskM}{d:DiskD}{t s n:Nat}{v:Value}{xs:List Value}(h:DK w m d)(ho:w'.ownsRow w.heap.size t s v n xs):LS w' m s v n xs:=
 ⟨Sn.own ho,fun b e=>⟨h.notFoot (World.ownsRow.lt ho b e).1,(World.ownsRow.lt ho b e).2⟩⟩
theorem Sn.take{w:World}{s n cap:Nat}{A:Option Addr}{xs:List Value}(h:Sn w s (.slice A n cap) n xs)(k:Nat)(hk:k≤n):Sn w s (.slice A k cap) k (xs.take (k*s)):=by
 obtain⟨A',cap',hv,hcap,hl,hx⟩:=h
 injection hv with hA _ hc
 subst hA hc
 have:=Nat.mul_le_mul_right s hk
 refine⟨_,_,rfl,by omega,by rw[List.length_take];omega,fun hp=>?_⟩
 obtain⟨b,off,rfl,hcell⟩:=hx (by omega)
 refine⟨b,off,rfl,fun j u hj=>hcell j u ?_⟩
 rw[List.getElem?_take] at hj
 split at hj
 ·exact hj
 ·cases hj
theorem beN_foldl(l:List Int):∀ x,l.foldl (fun x c=>x*256+c.toNat) x=x*256 ^ l.length+beN l:=by
 induction l with
 | nil=>intro x;simp[beN]
 | cons c l ih=>
  intro x
  rw[List.foldl_cons,ih,show beN (c :: l)=(c :: l).foldl (fun x c=>x*256+c.toNat) 0 from rfl,List.foldl_cons,ih,List.length_cons,Nat.pow_succ,Nat.zero_mul,Nat.zero_add]
  rw[Nat.add_mul,Nat.mul_assoc,Nat.mul_comm 256,Nat.add_assoc]
theorem beN_cons(c:Int)(l:List Int):beN (c :: l)=c.toNat*256 ^ l.length+beN l:=by
 rw[show beN (c :: l)=(c :: l).foldl (fun x c=>x*256+c.toNat) 0 from rfl,List.foldl_cons,beN_foldl,Nat.zero_mul,Nat.zero_add]
theorem prs_gen{s:List Int}{g:Nat}{p:List Int}(h:prs s=some (g,p)):g=beN ((s.drop 60).take 4):=by
 unfold prs at h
 split at h
 ·cases h
 ·split at h
  ·cases h
  ·split at h
   ·cases h
   ·injection h with h;injection h with h _;exact h.symm
theorem beN_zeros(n:Nat):beN (List.replicate n 0)=0:=by
 induction n with
 | zero=>rfl
 | succ n ih=>rw[List.replicate_succ,beN_cons,ih];simp
theorem prs_zsec{g:Nat}{p:List Int}(h:prs zsec=some (g,p)):p=[]:=by
 unfold prs at h
 rw[show zsec.take 2=List.replicate 2 0 by unfold zsec;rw[List.take_replicate];rfl,beN_zeros] at h
 split at h
 ·cases h
 ·split at h
  ·cases h
  ·split at h
   ·cases h
   ·injection h with h;injection h with _ h;rw[← h,List.take_zero]
theorem prsH_zsec:prsH zsec=none:=by
 unfold prsH
 split
 ·rename_i g p h
  rw[prs_zsec h,if_neg (by decide)]
 ·rfl
def qD(sec:List (List Int))(opn:List (Int×List Int))(st r:Nat):DiskD:={ sec:=sec,opn:=opn,down:=false,steps:=st,fl:=fun _=>false,cr:=fun _=>none,room:=r }
theorem newD_q(n:Nat):newD n=qD (List.replicate n zsec) [] 0 0:=rfl
theorem stepped_q(sec:List (List Int))(opn:List (Int×List Int))(st r:Nat):stepped (qD sec opn st r)=qD sec opn (st+1) (max r (st+1)):=by
 unfold stepped qD
 simp
theorem outS_q(sec:List (List Int))(opn:List (Int×List Int))(st r:Nat):outS (qD sec opn st r)=0:=rfl
theorem has_q{sec:List (List Int)}{opn:List (Int×List Int)}{st r:Nat}{a:Int}(h:0≤a)(h':a<sec.length):hasB (qD sec opn st r) a=true:=by
 unfold hasB
 rw[decide_eq_true h,Bool.true_and]
 exact decide_eq_true h'
theorem writeA_q{sec:List (List Int)}{opn:List (Int×List Int)}{st r:Nat}{a:Int}(h:0≤a)(h':a<sec.length):writeA (qD sec opn st r) a=none:=by
 unfold writeA
 rw[outS_q,has_q h h']
 rfl
theorem writeD_q{sec:List (List Int)}{opn:List (Int×List Int)}{st r:Nat}{a:Int}(h:0≤a)(h':a<sec.length)(s:List Int):writeD (qD sec opn st r) a s=qD sec (opn++[(a,s)]) (st+1) (max r (st+1)+1):=by
 unfold writeD
 rw[outS_q,stepped_q]
 unfold addIf
 rw[has_q h h']
 rfl
theorem syncA_q(sec:List (List Int))(opn:List (Int×List Int))(st r:Nat):syncA (qD sec opn st r)=none:=rfl
theorem syncS_q(sec:List (List Int))(opn:List (Int×List Int))(st r:Nat):syncS (qD sec opn st r)=qD (syncN sec opn opn.length) [] (st+1) (max r (st+1)):=by
 unfold syncS
 rw[outS_q,stepped_q]
 rfl
theorem wsA_q{sec:List (List Int)}{opn:List (Int×List Int)}{st r:Nat}{a:Int}(h:0≤a)(h':a<sec.length)(s:List Int):wsA (qD sec opn st r) a s=none:=by
 unfold wsA
 rw[writeA_q h h',writeD_q h h']
 rfl
theorem wsD_q{sec:List (List Int)}{st r:Nat}{a:Int}(h:0≤a)(h':a<sec.length)(s:List Int):∃ r',st+2≤r'∧r'≤max r (st+2)+1∧wsD (qD sec [] st r) a s=qD (sec.set a.toNat s) [] (st+2) r':=by
 refine⟨max (max r (st+1)+1) (st+2),by omega,by omega,?_⟩
 unfold wsD
 rw[writeA_q h h',writeD_q h h']
 show syncS _=_
 rw[syncS_q]
 rfl
theorem secs_still{d:DiskD}(hd:d.down=false)(ho:d.opn=[]):∀(n:Nat) (a:Int),0≤a→a.toNat+n≤d.sec.length→secsL d a n=((d.sec.drop a.toNat).take n).map (fun s=>(s,none))
 | 0,a,_,_=>by simp[secsL]
 | n+1,a,h0,h=>by
  have hlt:a.toNat<d.sec.length:=by omega
  have hh:hasB d a=true:=by unfold hasB;simp;omega
  have e1:rdA d a=none:=by unfold rdA;rw[hd,hh];rfl
  have e2:rdS d a=d.sec[a.toNat]:=by
   unfold rdS
   rw[hd,hh]
   show rdD d a=_
   unfold rdD
   rw[ho]
   simp[hlt]
  rw[secsL,e1,if_pos rfl,e2,secs_still hd ho n (a+1) (by omega) (by omega),List.drop_eq_getElem_cons hlt,List.take_succ_cons,List.map_cons,show(a+1).toNat=a.toNat+1 by omega]
def scanL:SSt→List (List Int)→SSt
 | st,[]=>st
 | st,s :: r=>match stepS st s with|some st'=>scanL st' r|none=>st
theorem scan_still:∀(L:List (List Int)) (st:SSt),scanR st (L.map (fun s=>(s,none)))=(scanL st L,none)
 | [],st=>rfl
 | s :: r,st=>by
  rw[List.map_cons]
  unfold scanR scanL
  cases h:stepS st s with
  | none=>rfl
  | some st'=>exact scan_still r st'
theorem scan_longer(g:Nat):∀(L:List (List Int)) (es:List Ent2),∃ more,scanL (some g,es) L=(some g,es++more)∧more.length≤L.length
 | [],es=>⟨[],by simp[scanL],Nat.le_refl _⟩
 | s :: L,es=>by
  rw[scanL]
  unfold stepS
  cases hp:prsE s with
  | none=>exact⟨[],by simp,by simp⟩
  | some x=>
   obtain⟨g',e⟩:=x
   by_cases hg:g'=g
   ·obtain⟨m,hm,hl⟩:=scan_longer g L (es++[e])
    refine⟨e :: m,?_,by simp;omega⟩
    simp only[if_pos hg,hm,List.append_assoc,List.singleton_append]
   ·refine⟨[],?_,by simp⟩
    simp only[if_neg hg,List.append_nil]
structure LogD where
 side:Nat
 last:Nat
 gen:Nat
 cnt:Nat
 brk:Bool
def logC(g h:Nat)(L:LogD):Array Value:=#[.pointer (some ⟨g,0,none⟩),.int .i64 0,.int .i64 h,.int .i64 h,.int .i64 h,.int .i64 L.side,.int .u32 L.last,.int .u32 L.gen,.int .i64 L.cnt,.bool L.brk]
structure LogOk(d:DiskD)(h:Nat)(L:LogD):Prop where
 side:L.side<2
 last:L.last<4294967296
 gen:L.gen<4294967296
 cnt:L.cnt≤10000
 half:h=d.sec.length/2
structure LK(w:World)(m:DiskM)(d:DiskD)(gl h:Nat)(L:LogD):Prop where
 dk:DK w m d
 blk:Blk w gl 327 (logC m.g h L)
 ap:Apart m gl
 ok:LogOk d h L
structure LT(gl:Nat)(w:World)(m:DiskM)(w':World)(m':DiskM):Prop where
 g:m'.g=m.g
 fo:Fo (gl :: foot m) w w'
 sub:∀ k∈foot m',k∈foot m∨w.heap.size≤k
 cv:∀ k v,m'.cv k=some v→m.cv k=some v∨∀ b,v.ownBlock=some b→w.heap.size≤b
section
variable {w w' w'' : World} {m m' m'' : DiskM} {d d' : DiskD} {gl h : Nat} {L L' : LogD}
theorem Fo.wide{F G:List Nat}(h:Fo F w w')(hs:∀ x∈F,x∈G):Fo G w w':=⟨h.os,h.tape,h.output,h.size,fun k hk hn=>h.block k hk (fun hm=>hn (hs k hm))⟩
theorem LT.of_dt(h:DT w m w' m'):LT gl w m w' m':=⟨h.g,h.fo.wide (fun _ hx=>List.mem_cons_of_mem _ hx),h.sub,h.cv⟩
theorem LT.of_below(h:Below w.heap.size w w'):LT gl w m w' m:=LT.of_dt (DT.of_below h)
theorem LT.trans(h:LT gl w m w' m')(k:LT gl w' m' w'' m''):LT gl w m w'' m'':=
 ⟨k.g.trans h.g,h.fo.trans k.fo (fun x hx=>by
  rcases List.mem_cons.1 hx with rfl|hx
  ·exact .inl (List.mem_cons_self ..)
  ·exact(h.sub x hx).imp (fun h=>List.mem_cons_of_mem _ h) id),fun x hx=>by
  rcases k.sub x hx with h1|h1
  ·exact h.sub x h1
  ·exact .inr (Nat.le_trans h.fo.size h1),fun x v hx=>by
  rcases k.cv x v hx with h1|h1
  ·exact h.cv x v h1
  ·exact .inr (fun b e=>Nat.le_trans h.fo.size (h1 b e))⟩
theorem LT.set(h:LT gl w m w' m')(i:Nat)(u:Value):LT gl w m (w'.setCell ⟨gl,i,none⟩ u) m':=⟨h.g,h.fo.set gl i (List.mem_cons_self ..) u,h.sub,h.cv⟩
theorem LT.below{B:Nat}(h:LT gl w m w' m')(hF:∀ k∈foot m,B≤k)(hg:B≤gl)(hB:B≤w.heap.size):Below B w w':=h.fo.below (fun k hk=>(List.mem_cons.1 hk).elim (fun e=>by omega) (hF k)) hB
theorem LT.le{B:Nat}(h:LT gl w m w' m')(hF:∀ k∈foot m,B≤k)(hB:B≤w.heap.size):∀ k∈foot m',B≤k:=fun k hk=>by
 rcases h.sub k hk with h1|h1
 ·exact hF k h1
 ·omega
theorem LK.keep(k:LK w m d gl h L)(hb:Below w.heap.size w w'):LK w' m d gl h L:=⟨k.dk.keep hb,k.blk.keep hb,k.ap,k.ok⟩
theorem LogOk.len(k:LogOk d h L)(hl:d'.sec.length=d.sec.length):LogOk d' h L:=⟨k.side,k.last,k.gen,k.cnt,by rw[hl];exact k.half⟩
theorem LK.disk(k:LK w m d gl h L)(hk:DK w' m' d')(ht:DT w m w' m')(hl:d'.sec.length=d.sec.length):LK w' m' d' gl h L:=
 ⟨hk,by rw[ht.g];exact(ht.off k.blk.lt k.ap.1).trans k.blk,k.ap.next k.blk.lt ht,k.ok.len hl⟩
theorem LK.set(k:LK w m d gl h L)(i:Nat)(u:Value)(hc:(logC m.g h L).setIfInBounds i u=logC m.g h L')(ho:LogOk d h L'):LK (w.setCell ⟨gl,i,none⟩ u) m d gl h L':=
 have hb:Below gl w (w.setCell ⟨gl,i,none⟩ u):=(Below.refl gl w).setCell (p:=⟨gl,i,none⟩) (Nat.le_refl _) _
 ⟨k.dk.offK (fun j hj=>Below.heap_setCell _ ⟨gl,i,none⟩ _ j hj) hb.size k.ap,by rw[← hc];exact k.blk.set_ i u,k.ap,ho⟩
theorem LK.cells(k:LK w m d gl h L):w.cell? ⟨gl,0,none⟩=some (.pointer (some ⟨m.g,0,none⟩))∧w.cell? ⟨gl,5,none⟩=some (.int .i64 L.side)∧w.cell? ⟨gl,6,none⟩=some (.int .u32 L.last)∧w.cell? ⟨gl,7,none⟩=some (.int .u32 L.gen)∧w.cell? ⟨gl,8,none⟩=some (.int .i64 L.cnt)∧w.cell? ⟨gl,9,none⟩=some (.bool L.brk):=
 ⟨(k.blk.cell 0).trans rfl,(k.blk.cell 5).trans rfl,(k.blk.cell 6).trans rfl,(k.blk.cell 7).trans rfl,(k.blk.cell 8).trans rfl,(k.blk.cell 9).trans rfl⟩
end
def sFrom(h s:Nat):Nat:=if s=0 then 0 else h
theorem blk_slot{w:World}{gl g h:Nat}{L:LogD}(k:Blk w gl 327 (logC g h L))(s:Nat)(hs:s<2):w.rangeAt gl (1+s*2) [.int .i64 (sFrom h s),.int .i64 h]:=by
 intro j u hj
 rw[k.cell]
 have hs2:s=0∨s=1:=by omega
 rcases hs2 with rfl|rfl
 all_goals
  match j with
  | 0=>simpa [logC,sFrom] using hj
  | 1=>simpa [logC,sFrom] using hj
  | j+2=>simp at hj
theorem disk_size(w:World)(m:DiskM)(d:DiskD)(h:DK w m d):
  Calls Tryz.prog 200 #[.pointer (some ⟨m.g,0,none⟩)] w fun e w'=>e = .returned (.int .i64 d.sec.length)∧w'=w:=by
 obtain⟨A,cap,hv,_⟩:=Sn.own h.sec
 have hc:=h.blk.cell 0
 simp only[diskC,List.getElem?_toArray,List.getElem?_cons_zero,hv] at hc
 go_enter Tryz.func200,Tryz.ntmps200
 go_wp2_with fail
 go_ret
 exact⟨rfl,rfl⟩
theorem frame_tag(s:List Int)(w:World)(hl:s.length=64)(hb:Bys s):
  Calls Tryz.prog 262 #[.agg (u8s s).toArray] w fun e w'=>e = .returned (.int .u32 (beN ((s.drop 60).take 4)))∧Below w.heap.size w w':=by
 obtain⟨w1,hw1⟩:∃ w1,w1=w.alloc (.cells (u8s s).toArray 243):=⟨_,rfl⟩
 have hB1:Blk w1 w.heap.size 243 (u8s s).toArray:=by rw[hw1];exact Blk.new _ _ _
 have hb1:Below w.heap.size w w1:=by rw[hw1];exact bel1 _ _
 have hd:(s.drop 60).length=4:=by rw[List.length_drop,hl]
 have HSN:Hid (Sn w1 1 (.slice (some ⟨w.heap.size,60,none⟩) 4 4) (s.drop 60).length (u8s (s.drop 60))):=Lib.hid (by
  have:=Sn.of_blk hB1 60 4 4 (by omega) (by omega)
  rw[List.take_of_length_le (by omega)] at this
  rw[hd];exact this)
 have HBY:Hid (Bys (s.drop 60)):=Lib.hid (fun c hc=>hb c (List.mem_of_mem_drop hc))
 have HW1:=Lib.hid hb1
 have HD:=Lib.hid hd
 have HLT:Hid (beN ((s.drop 60).take 4)<4294967296):=Lib.hid (by
  have:=beN_lt ((s.drop 60).take 4) (fun c hc=>HBY.out c (List.mem_of_mem_take hc))
  rw[List.length_take,hd] at this
  exact this)
 clear hB1 hb1 hd hl hb
 go_enter Tryz.func262,Tryz.ntmps262
 go_upto_region 1 with fail
 rw[← hw1]
 clear hw1
 go_wp2_with fail
 refine(wire_new _ (s.drop 60) w1 HSN.out (by rw[HD.out];omega)).mono ?_
 rintro e w2 ⟨r,v,rfl,hR,hr,hb2⟩
 have HR:=Lib.hid hR
 have HB2:=Lib.hid (bstep HW1.out hb2)
 have HRW:Hid (w.heap.size≤r):=Lib.hid (by have:=HW1.size;omega)
 clear hR hr hb2
 go_wp2_with fail
 refine(rd_Number r v (s.drop 60) false 4 w2 HR.out HBY.out (by rw[HD.out];omega) (by omega) (by omega)).mono ?_
 rintro e w3 ⟨ho3,⟨_,_,v3,rfl,hR3⟩|⟨hbad,_,_⟩⟩
 ·have HB3:Hid (Below w.heap.size w w3):=Lib.hid (HB2.trans (ho3.below HRW.out HB2.size))
  obtain⟨X,hX⟩:∃ X,X=beN ((s.drop 60).take 4):=⟨_,rfl⟩
  have hlt:X<4294967296:=by rw[hX];exact HLT.out
  rw[← hX]
  have HX:=Lib.hid hX
  have hi:(X:Int)≤4294967295:=by omega
  have h0:(0:Int)≤X:=by omega
  clear hX ho3 hR3
  go_wp2_with fail
  go_ret
  exact⟨by rw[← HX.out];rfl,HB3.out⟩
 ·rcases hbad with h|h
  ·cases h
  ·rw[HD.out] at h;omega
def noteL(L:LogD)(c:Int):LogD:=if c=11∨c=12 then { L with brk:=true } else L
theorem log_note(x:Ans)(w:World)(m:DiskM)(d:DiskD)(gl h:Nat)(L:LogD)(k:LK w m d gl h L):
  Calls Tryz.prog 229 #[.pointer (some ⟨gl,0,none⟩),valE x] w fun e w'=>e = .returned (valE x)∧LK w' m d gl h (noteL L (codeA x))∧LT gl w m w' m:=by
 obtain⟨v,hv⟩:∃ v,v=valE x:=⟨_,rfl⟩
 have HC:=Lib.hid (code_val x w)
 rw[← hv] at HC ⊢
 obtain⟨c,hc⟩:∃ c,c=codeA x:=⟨_,rfl⟩
 rw[← hc] at HC ⊢
 have HK:=Lib.hid k
 clear hv hc k
 rcases Bool.eq_false_or_eq_true (c == 11) with t1|t1
 ·have HN:Hid (noteL L c={ L with brk:=true }):=Lib.hid (by unfold noteL;rw[if_pos (.inl (by simpa using t1))])
  go_enter Tryz.func229,Tryz.ntmps229
  go_wp2_with fail
  refine HC.mono ?_
  rintro e w2 ⟨rfl,hb2⟩
  have HK2:=Lib.hid (HK.keep hb2)
  have HT2:Hid (LT gl w m w2 m):=Lib.hid (LT.of_below hb2)
  obtain⟨c0,c5,c6,c7,c8,c9⟩:=HK2.cells
  have f9:=HK2.blk.frozen 9
  clear hb2
  go_wp2_with fail
  go_ret
  exact⟨rfl,by rw[HN.out];exact HK2.set 9 _ rfl ⟨HK2.ok.side,HK2.ok.last,HK2.ok.gen,HK2.ok.cnt,HK2.ok.half⟩,HT2.set 9 _⟩
 ·rcases Bool.eq_false_or_eq_true (c == 12) with t2|t2
  ·have HN:Hid (noteL L c={ L with brk:=true }):=Lib.hid (by unfold noteL;rw[if_pos (.inr (by simpa using t2))])
   go_enter Tryz.func229,Tryz.ntmps229
   go_wp2_with fail
   refine HC.mono ?_
   rintro e w2 ⟨rfl,hb2⟩
   have HK2:=Lib.hid (HK.keep hb2)
   have HT2:Hid (LT gl w m w2 m):=Lib.hid (LT.of_below hb2)
   obtain⟨c0,c5,c6,c7,c8,c9⟩:=HK2.cells
   have f9:=HK2.blk.frozen 9
   clear hb2
   go_wp2_with fail
   go_ret
   exact⟨rfl,by rw[HN.out];exact HK2.set 9 _ rfl ⟨HK2.ok.side,HK2.ok.last,HK2.ok.gen,HK2.ok.cnt,HK2.ok.half⟩,HT2.set 9 _⟩
  ·have HN:Hid (noteL L c=L):=Lib.hid (by unfold noteL;rw[if_neg (fun h=>h.elim (fun e=>by simp[e] at t1) (fun e=>by simp[e] at t2))])
   go_enter Tryz.func229,Tryz.ntmps229
   go_wp2_with fail
   refine HC.mono ?_
   rintro e w2 ⟨rfl,hb2⟩
   have HK2:=Lib.hid (HK.keep hb2)
   have HT2:Hid (LT gl w m w2 m):=Lib.hid (LT.of_below hb2)
   clear hb2
   go_wp2_with fail
   go_ret
   exact⟨rfl,by rw[HN.out];exact HK2.out,HT2.out⟩
end
section
open Go.RowKit
attribute [local irreducible] wpQuiet wpAnyH
theorem addIf_len(d:DiskD)(a:Int)(s:List Int):(addIf d a s).sec.length=d.sec.length:=by
 unfold addIf
 split <;> rfl
theorem writeD_len(d:DiskD)(a:Int)(s:List Int):(writeD d a s).sec.length=d.sec.length:=by
 unfold writeD
 split
 ·rfl
 ·split
  ·exact(crashL_len _ _ _).trans (addIf_len (stepped d) a s)
  ·split
   ·rfl
   ·exact addIf_len (stepped d) a s
theorem syncS_len(d:DiskD):(syncS d).sec.length=d.sec.length:=by
 unfold syncS
 split
 ·rfl
 ·split
  ·exact crashL_len _ _ _
  ·split
   ·rfl
   ·exact syncN_len _ _ _
theorem wsD_len(d:DiskD)(a:Int)(s:List Int):(wsD d a s).sec.length=d.sec.length:=by
 unfold wsD
 split
 ·exact writeD_len _ _ _
 ·exact(syncS_len _).trans (writeD_len _ _ _)
theorem fillW_len:∀(l:List (List Int)) (d:DiskD) (a:Int),(fillW d a l).2.sec.length=d.sec.length
 | [],d,_=>syncS_len d
 | s :: l,d,a=>by
  unfold fillW
  split
  ·exact writeD_len _ _ _
  ·exact(fillW_len l _ _).trans (writeD_len _ _ _)
theorem fillR_len(d:DiskD)(f z:Int)(g:Nat)(l:List Ent2):(fillR d f z g l).2.sec.length=d.sec.length:=by
 unfold fillR
 split
 ·rfl
 ·split
  ·exact fillW_len _ _ _
  ·rfl
theorem ofs_lt{h s:Nat}(hh:h≤4096):0≤(sFrom h s:Int)∧(sFrom h s:Int)≤100000:=by
 unfold sFrom
 split <;> omega
theorem LogOk.h_le{w:World}{m:DiskM}{d:DiskD}{gl h:Nat}{L:LogD}(k:LK w m d gl h L):h≤4096:=by
 have:=k.ok.half
 have:=k.dk.ok.few
 omega
end
end Go.Proofs.YtiaigidbcljblaaGreatDoor
