import Derived.Test.YtombncedfleljaaGreatMC34
import Derived.Test.YtombncedfleljaaGreatMC38
set_option linter.unusedVariables false
set_option linter.unusedSimpArgs false
set_option maxRecDepth 100000
set_option maxHeartbeats 40000000
namespace Go.Proofs.YtombncedfleljaaGreat
section
open Go.RowKit
attribute [local irreducible] wpQuiet wpAnyH
structure CT(F:List Nat)(w:World)(m:DiskM)(w':World)(m':DiskM):Prop where
 g:m'.g=m.g
 fo:Fo (F++bJ m) w w'
 sub:∀ k∈bJ m',k∈bJ m∨w.heap.size≤k
 cv:∀ k v,m'.cv k=some v→m.cv k=some v∨∀ b,v.ownBlock=some b→w.heap.size≤b
def Far(m:DiskM)(F:List Nat)(b:Nat):Prop:=Apart m b∧b ∉ F
section
variable {F : List Nat} {w w' w'' : World} {m m' m'' : DiskM} {d d' : DiskD}
theorem CT.of_lt{gl:Nat}(h:LT gl w m w' m')(hg:gl∈F∨w.heap.size≤gl):CT F w m w' m':=
 ⟨h.g,⟨h.fo.os,h.fo.tape,h.fo.output,h.fo.size,fun k hk hn=>h.fo.block k hk (fun hm=>by
  rcases List.mem_cons.1 hm with h1|h1
  ·rcases hg with h2|h2
   ·exact hn (List.mem_append.2 (.inl (h1 ▸ h2)))
   ·omega
  ·exact hn (List.mem_append.2 (.inr h1)))⟩,h.sub,h.cv⟩
theorem CT.of_dt(h:DT w m w' m'):CT F w m w' m':=⟨h.g,h.fo.wide (fun _ hx=>List.mem_append.2 (.inr hx)),h.sub,h.cv⟩
theorem CT.of_below(h:Below w.heap.size w w'):CT F w m w' m:=CT.of_dt (DT.of_below h)
theorem CT.of_off{b:Nat}(h:Off b w w')(hb:b∈F):CT F w m w' m:=
 ⟨rfl,⟨h.os,h.tape,h.output,h.size,fun k hk hn=>h.block k hk (fun e=>hn (List.mem_append.2 (.inl (e ▸ hb))))⟩,fun _ h=>.inl h,fun _ _ h=>.inl h⟩
theorem CT.trans(h:CT F w m w' m')(k:CT F w' m' w'' m''):CT F w m w'' m'':=
 ⟨k.g.trans h.g,h.fo.trans k.fo (fun x hx=>by
  rcases List.mem_append.1 hx with h1|h1
  ·exact .inl (List.mem_append.2 (.inl h1))
  ·exact(h.sub x h1).imp (fun h=>List.mem_append.2 (.inr h)) id),fun x hx=>by
  rcases k.sub x hx with h1|h1
  ·exact h.sub x h1
  ·exact .inr (Nat.le_trans h.fo.size h1),fun x v hx=>by
  rcases k.cv x v hx with h1|h1
  ·exact h.cv x v h1
  ·exact .inr (fun b e=>Nat.le_trans h.fo.size (h1 b e))⟩
theorem CT.block(h:CT F w m w' m'){b:Nat}(hb:b<w.heap.size)(hf:Far m F b):w'.heap[b]? = w.heap[b]?:=
 h.fo.block b hb (fun hm=>(List.mem_append.1 hm).elim hf.2 hf.1.1)
theorem CT.apart(h:CT F w m w' m'){b:Nat}(hb:b<w.heap.size)(hf:Apart m b):Apart m' b:=
 ⟨fun hm=>by
  rcases h.sub b hm with h1|h1
  ·exact hf.1 h1
  ·omega,fun k hk v hv e=>by
  rcases h.cv k v hv with h1|h1
  ·exact hf.2 k hk v h1 e
  ·have:=h1 b e;omega⟩
theorem CT.far(h:CT F w m w' m'){b:Nat}(hb:b<w.heap.size)(hf:Far m F b):Far m' F b:=⟨h.apart hb hf.1,hf.2⟩
theorem CT.below{B:Nat}(h:CT F w m w' m')(hF:∀ k∈bJ m,B≤k)(hg:∀ k∈F,B≤k)(hB:B≤w.heap.size):Below B w w':=
 h.fo.below (fun k hk=>(List.mem_append.1 hk).elim (hg k) (hF k)) hB
theorem CT.le{B:Nat}(h:CT F w m w' m')(hF:∀ k∈bJ m,B≤k)(hB:B≤w.heap.size):∀ k∈bJ m',B≤k:=fun k hk=>by
 rcases h.sub k hk with h1|h1
 ·exact hF k h1
 ·omega
theorem CT.wide{G:List Nat}(h:CT F w m w' m')(hs:∀ x∈F,x∈G∨w.heap.size≤x):CT G w m w' m':=
 ⟨h.g,⟨h.fo.os,h.fo.tape,h.fo.output,h.fo.size,fun k hk hn=>h.fo.block k hk (fun hm=>by
  rcases List.mem_append.1 hm with h1|h1
  ·rcases hs k h1 with h2|h2
   ·exact hn (List.mem_append.2 (.inl h2))
   ·omega
  ·exact hn (List.mem_append.2 (.inr h1)))⟩,h.sub,h.cv⟩
theorem St.ct{w0:World}(h:St w0 w m d)(hk:DK w' m' d')(ht:CT F w m w' m')(hg:∀ k∈F,w0.heap.size≤k):St w0 w' m' d':=
 ⟨hk,ht.le h.ft h.bel.size,h.bel.trans (ht.below h.ft hg h.bel.size)⟩
theorem Blk.ct{g:Nat}{t:TypeId}{cs:Array Value}(h:Blk w g t cs)(ht:CT F w m w' m')(hf:Far m F g):Blk w' g t cs:=(ht.block h.lt hf).trans h
end
theorem DK.offO{w w':World}{m:DiskM}{d:DiskD}{b:Nat}(h:DK w m d)(ho:Off b w w')(ha:Apart m b):DK w' m d where
 blk:=(ho.block m.g h.blk.lt (fun e=>ha.1 (e ▸ fU m))).trans h.blk
 sec:=bU h.sec fun x hx=>ho.block x (h.sec.lt x hx).2 (fun e=>ha.1 (e ▸ lC hx))
 opn:=bU h.opn fun x hx=>ho.block x (h.opn.lt x hx).2 (fun e=>ha.1 (e ▸ mZ hx))
 last:=h.last.of_block (ho.block _ h.last.lt (fun e=>ha.1 (e ▸ jP m)))
 fl:=h.fl.of_block (ho.block _ h.fl.lt (fun e=>ha.1 (e ▸ jQ m)))
 cr:=h.cr.of_block (ho.block _ h.cr.lt (fun e=>ha.1 (e ▸ iQ m)))
 nd:=h.nd
 flv:=h.flv
 crv:=fun k hi=>by
  have:=h.crv k hi;cases hc:d.cr k with
  | none=>rw[hc] at this;exact this
  | some cs=>
   rw[hc] at this;obtain⟨v,h1,h2,h3⟩:=this;refine⟨v,h1,?_,fun b hb=>⟨(h3 b hb).1,Nat.lt_of_lt_of_le (h3 b hb).2 ho.size⟩⟩;have hne:=ha.2 k hi v h1;obtain⟨A,cap,rfl,q1,q2,hx⟩:=h2;refine⟨A,cap,rfl,q1,q2,fun hp=>?_⟩;obtain⟨g,o,rfl,hcell⟩:=hx hp;exact⟨g,o,rfl,fun j u hj=>ho.cell (hcell j u hj) (fun e=>hne (by rw[← e];rfl))⟩
 ok:=h.ok
structure CacheD where
 L:LogD
 E:EL
 til:Int
def gP(gl gi:Nat)(t:Int):Array Value:=#[.pointer (some ⟨gl,0,none⟩),.pointer (some ⟨gi,0,none⟩),.int .i64 t]
def XK(w:World)(gi bi n:Nat)(E:EL):Prop:=∃ f c,IX w gi bi n f c∧Lists f E
theorem XK.keep{w w':World}{gi bi n:Nat}{E:EL}(h:XK w gi bi n E)(hb:Below w.heap.size w w'):XK w' gi bi n E:=by
 obtain⟨f,c,h1,h2⟩:=h;exact⟨f,c,h1.keep hb,h2⟩
theorem XK.same{w w':World}{gi bi n:Nat}{E:EL}(h:XK w gi bi n E)(h1:w'.heap[gi]? = w.heap[gi]?)(h2:w'.heap[bi]? = w.heap[bi]?):XK w' gi bi n E:=by
 obtain⟨f,c,⟨a,b,e⟩,h3⟩:=h;exact⟨f,c,⟨(World.cell?_of_block (a:=⟨gi,0,none⟩) h1).trans a,b,e.of_block h2⟩,h3⟩
theorem XK.len{w:World}{gi bi n:Nat}{E:EL}(h:XK w gi bi n E):E.length≤n:=by
 obtain⟨f,c,⟨_,_,e⟩,h3⟩:=h;have:=h3.count e;have:=e.le;omega
theorem XK.lt{w:World}{gi bi n:Nat}{E:EL}(h:XK w gi bi n E):gi<w.heap.size∧bi<w.heap.size:=by
 obtain⟨f,c,⟨a,_,e⟩,_⟩:=h;exact⟨fJ a,e.lt⟩
theorem XK.wl{w:World}{gi bi n:Nat}{E:EL}(h:XK w gi bi n E):WL E:=by
 obtain⟨f,c,_,h⟩:=h;exact⟨f,h⟩
theorem XK.mono{w:World}{gi bi n n':Nat}{E:EL}(h:XK w gi bi n E)(hn:n≤n'):XK w gi bi n' E:=by
 obtain⟨f,c,h1,h2⟩:=h;exact⟨f,c,h1.mono hn,h2⟩
structure CK(w:World)(m:DiskM)(d:DiskD)(gc gl gi bi h n:Nat)(C:CacheD):Prop where
 lk:LK w m d gl h C.L
 blk:Blk w gc 84 (gP gl gi C.til)
 ix:XK w gi bi n C.E
 ac:Apart m gc
 ai:Apart m gi
 ab:Apart m bi
 ne:gc≠gl∧gi≠gl∧bi≠gl∧gc≠bi∧gi≠bi
 i64:aK C.til
theorem CK.keep{w w':World}{m:DiskM}{d:DiskD}{gc gl gi bi h n:Nat}{C:CacheD}(k:CK w m d gc gl gi bi h n C)(hb:Below w.heap.size w w'):CK w' m d gc gl gi bi h n C:=
 ⟨k.lk.keep hb,k.blk.keep hb,k.ix.keep hb,k.ac,k.ai,k.ab,k.ne,k.i64⟩
theorem CK.log{w w':World}{m m':DiskM}{d d':DiskD}{gc gl gi bi h n:Nat}{C:CacheD}{L':LogD}(k:CK w m d gc gl gi bi h n C)(hl:LK w' m' d' gl h L')(ht:LT gl w m w' m'):CK w' m' d' gc gl gi bi h n ⟨L',C.E,C.til⟩:=
 have hc:CT [gl] w m w' m':=CT.of_lt ht (.inl (List.mem_singleton.2 rfl));have f1:∀ b,b≠gl→Apart m b→Far m [gl] b:=fun b hb ha=>⟨ha,fun hm=>hb (List.mem_singleton.1 hm)⟩
 have lt:=k.ix.lt
 ⟨hl,k.blk.ct hc (f1 _ k.ne.1 k.ac),k.ix.same (hc.block lt.1 (f1 _ k.ne.2.1 k.ai)) (hc.block lt.2 (f1 _ k.ne.2.2.1 k.ab)),hc.apart k.blk.lt k.ac,hc.apart lt.1 k.ai,hc.apart lt.2 k.ab,k.ne,k.i64⟩
theorem CK.disk{w w':World}{m m':DiskM}{d d':DiskD}{gc gl gi bi h n:Nat}{C:CacheD}(k:CK w m d gc gl gi bi h n C)(hk:DK w' m' d')(ht:DT w m w' m')(hl:d'.sec.length=d.sec.length):CK w' m' d' gc gl gi bi h n C:=
 k.log (L':=C.L) (k.lk.disk hk ht hl) (LT.of_dt ht)
theorem CK.index{w w':World}{m:DiskM}{d:DiskD}{gc gl gi bi h n n':Nat}{C:CacheD}{E':EL}(k:CK w m d gc gl gi bi h n C)(ho:Off bi w w')(hx:XK w' gi bi n' E'):CK w' m d gc gl gi bi h n' ⟨C.L,E',C.til⟩:=
 have h1:∀ j,j<w.heap.size→j≠bi→w'.heap[j]? = w.heap[j]?:=ho.block;have hfo:Fo [bi] w w':=⟨ho.os,ho.tape,ho.output,ho.size,fun j hj hn=>h1 j hj (fun e=>hn (List.mem_singleton.2 e))⟩
 ⟨⟨k.lk.dk.offO ho k.ab,(h1 gl k.lk.blk.lt (fun e=>k.ne.2.2.1 e.symm)).trans k.lk.blk,k.lk.ap,k.lk.ok⟩,(h1 gc k.blk.lt k.ne.2.2.2.1).trans k.blk,hx,k.ac,k.ai,k.ab,k.ne,k.i64⟩
end
section
open Go.RowKit
attribute [local irreducible] wpQuiet wpAnyH
theorem DB(w:World)(gi bi n:Nat)(E:EL)(now:Int)(h:XK w gi bi n E)(hn:n≤1000):
  Calls Tryz.prog 37 #[.pointer (some ⟨gi,0,none⟩),.int .i64 now] w fun e w'=>∃ v,e = .returned v∧Sn w' 33 v (aE E now).length ((aE E now).flatMap aC)∧Below w.heap.size w w'∧∀ b,v.ownBlock=some b→w.heap.size≤b∧b<w'.heap.size:=by
 obtain⟨f,c,hx,hl⟩:=h;refine(G3 gi bi n c f now w hx hn).mono ?_;rintro e w' ⟨v,L,rfl,h1,h2,h3,h4,_,h5⟩;have:L=aE E now:=(Lists.of_live h2 h3 hl.exp).eq (hl.live now);subst this;exact⟨v,rfl,h1,h4,h5⟩
theorem DC(w:World)(gi bi n:Nat)(E:EL)(now:Int)(h:XK w gi bi n E)(hn:n≤1000):
  Calls Tryz.prog 38 #[.pointer (some ⟨gi,0,none⟩),.int .i64 now] w fun e w'=>∃ k:Nat,e = .returned (.int .i64 k)∧XK w' gi bi n (aE E now)∧Off bi w w':=by
 obtain⟨f,c,hx,hl⟩:=h;refine(GR gi bi n c f now w hx hn).mono ?_;rintro e w' ⟨k,c',rfl,_,h1,h2⟩;exact⟨k,rfl,⟨_,_,h1,hl.live now⟩,h2⟩
theorem G5(w:World)(gi bi n:Nat)(E:EL)(q:aW)(h:XK w gi bi n E)(hq:EntOk q)(hn:n≤1000):
  Calls Tryz.prog 34 #[.pointer (some ⟨gi,0,none⟩),.agg (aC q).toArray] w fun e w'=>∃ b,e = .returned (.bool b)∧XK w' gi bi (n+1) (aM E q).1∧Off bi w w':=by
 obtain⟨f,c,hx,hl⟩:=h;refine(CZ gi bi n c f q.1 q.2 w hx hq.dig hq.exp (by unfold maxLen;omega)).mono ?_;rintro e w' ⟨rfl,h1,h2⟩;exact⟨_,rfl,⟨_,_,h1,(oM hl hq).1⟩,h2⟩
theorem G6(w:World)(gi bi n:Nat)(E:EL)(d:List Int)(now:Int)(h:XK w gi bi n E)(hd:DigOk d):
  Calls Tryz.prog 30 #[.pointer (some ⟨gi,0,none⟩),.agg (u8s d).toArray,.int .i64 now] w fun e w'=>e = .returned (.bool (fI E d now))∧Below w.heap.size w w':=by
 obtain⟨f,c,hx,hl⟩:=h;rw[hl.hasq hd now];exact J3 gi bi n c f d now w hx hd
theorem K0(v:Value)(l:EL)(w:World)(hs:Sn w 33 v l.length (l.flatMap aC))(hok:∀ p∈l,EntOk p)(hl:l.length≤1000):
  Calls Tryz.prog 43 #[v] w fun e w'=>∃ gi bi,e = .returned (.pointer (some ⟨gi,0,none⟩))∧XK w' gi bi l.length (bN l)∧w.heap.size≤gi∧w.heap.size≤bi∧gi≠bi∧Below w.heap.size w w':=by
 refine(J5 v l w hs hok hl).mono ?_;rintro e w' ⟨g,b,rfl,h1,h2,h3,h4⟩;exact⟨g,b,rfl,⟨_,_,h1,y9 l hok⟩,h2,h3,h1.2.1,h4⟩
section
variable {w : World} {gc gl gi : Nat} {til : Int}
theorem cF(h:Blk w gc 84 (gP gl gi til)):w.cell? ⟨gc,0,none⟩=some (.pointer (some ⟨gl,0,none⟩))∧w.cell? ⟨gc,1,none⟩=some (.pointer (some ⟨gi,0,none⟩))∧w.cell? ⟨gc,2,none⟩=some (.int .i64 til):=
 ⟨(h.cell 0).trans rfl,(h.cell 1).trans rfl,(h.cell 2).trans rfl⟩
end
section
variable {w : World} {m : DiskM} {d : DiskD} {gc gl gi bi h n : Nat} {C : CacheD}
theorem K1(now:Int)(k:CK w m d gc gl gi bi h n C)(hn:n≤1000):
  Calls Tryz.prog 19 #[.pointer (some ⟨gc,0,none⟩),.int .i64 now] w fun e w'=>∃ v,e = .returned v∧Sn w' 33 v (aE C.E now).length ((aE C.E now).flatMap aC)∧Below w.heap.size w w'∧∀ b,v.ownBlock=some b→w.heap.size≤b∧b<w'.heap.size:=by
 obtain⟨_,c1,_⟩:=cF k.blk;have HL:=jz (DB w gi bi n C.E now k.ix hn);clear k;go_enter Tryz.func19,Tryz.ntmps19
 go_wp2_with fail
 refine HL.mono ?_;rintro e w' ⟨v,rfl,h1,h2,h3⟩;have H1:=jz h1;have H2:=jz h2;have H3:=jz h3;clear h1 h2 h3;go_wp2_with fail
 go_ret;exact⟨v,rfl,H1.out,H2.out,H3.out⟩
theorem BF(now:Int)(w:World):Calls Tryz.prog 19 #[.pointer none,.int .i64 now] w fun e w'=>e = .returned (.slice none 0 0)∧w'=w:=by
 go_enter Tryz.func19,Tryz.ntmps19
 go_wp2_with fail
 go_ret;exact⟨rfl,rfl⟩
theorem xM(k:CK w m d gc gl gi bi h n C):
  Calls Tryz.prog 27 #[.pointer (some ⟨gc,0,none⟩)] w fun e w'=>e = .returned (.int .i64 C.til)∧w'=w:=by
 obtain⟨_,_,c2⟩:=cF k.blk;clear k;go_enter Tryz.func27,Tryz.ntmps27
 go_wp2_with fail
 go_ret;exact⟨rfl,rfl⟩
theorem sP(k:CK w m d gc gl gi bi h n C):
  Calls Tryz.prog 24 #[.pointer (some ⟨gc,0,none⟩)] w fun e w'=>e = .returned (.int .i64 C.L.cnt)∧w'=w:=by
 obtain⟨c0,_,_⟩:=cF k.blk;have HL:=jz (ES w gl m.g h C.L k.lk.blk);clear k;go_enter Tryz.func24,Tryz.ntmps24
 go_wp2_with fail
 refine HL.mono ?_;rintro e w' ⟨rfl,hw⟩;rw[hw];clear hw w';go_wp2_with fail
 go_ret;exact⟨rfl,rfl⟩
theorem BG(k:CK w m d gc gl gi bi h n C):
  Calls Tryz.prog 31 #[.pointer (some ⟨gc,0,none⟩)] w fun e w'=>e = .returned (.int .i64 (h-1:Nat))∧Below w.heap.size w w':=by
 obtain⟨c0,_,_⟩:=cF k.blk;have HL:=jz (GK w gl m.g h C.L k.lk.blk k.lk.ok.side (LogOk.h_le k.lk));clear k;go_enter Tryz.func31,Tryz.ntmps31
 go_wp2_with fail
 refine HL.mono ?_;rintro e w' ⟨rfl,hb⟩;have HB:=jz hb;clear hb;go_wp2_with fail
 go_ret;exact⟨rfl,HB.out⟩
theorem sQ(k:CK w m d gc gl gi bi h n C):
  Calls Tryz.prog 10 #[.pointer (some ⟨gc,0,none⟩)] w fun e w'=>e = .returned (.bool C.L.brk)∧w'=w:=by
 obtain⟨c0,_,_⟩:=cF k.blk;have HL:=jz (AP w gl m.g h C.L k.lk.blk);clear k;go_enter Tryz.func10,Tryz.ntmps10
 go_wp2_with fail
 refine HL.mono ?_;rintro e w' ⟨rfl,hw⟩;rw[hw];clear hw w';go_wp2_with fail
 go_ret;exact⟨rfl,rfl⟩
theorem nP(w:World):Calls Tryz.prog 10 #[.pointer none] w fun e w'=>e = .returned (.bool true)∧w'=w:=by
 go_enter Tryz.func10,Tryz.ntmps10
 go_wp2_with fail
 go_ret;exact⟨rfl,rfl⟩
end
def xN(x:Ans):Int:=if cQ x=12 then 0 else 9
theorem sR(x:Ans)(w:World)(hx:aK (cQ x)):Calls Tryz.prog 32 #[cC x] w fun e w'=>e = .returned (.int .i64 (xN x))∧Below w.heap.size w w':=by
 obtain⟨v,hv⟩:=je (cC x);have HC:=jz (rD x w);rw[← hv] at HC ⊢;have HA:Hid (xN x=if cQ x=12 then 0 else 9):=jz rfl;obtain⟨a,ha⟩:=je (xN x);rw[← ha] at HA ⊢;obtain⟨c,hc⟩:=je (cQ x);rw[← hc] at HC HA hx;clear hv hc ha;rcases jb (c == 12) with t1|t1
 all_goals
  go_enter Tryz.func32,Tryz.ntmps32
  go_wp2_with (go_at_call 54;refine HC.mono ?_;rintro e w1 ⟨rfl,hb⟩;have HB:=jz hb;clear hb)
  go_ret;have h1:=HA.out;simp only[beq_iff_eq,beq_eq_false_iff_ne,ne_eq] at t1
  first
   | (rw[if_pos t1] at h1;rw[h1];exact⟨rfl,HB.out⟩)
   | (rw[if_neg t1] at h1;rw[h1];exact⟨rfl,HB.out⟩)
end
section
open Go.RowKit
attribute [local irreducible] wpQuiet wpAnyH
theorem fO(l:List (List Int))(i j:Nat)(s:List Int)(hi:i<l.length):(l.set i s).getD j []=if j=i then s else l.getD j []:=by
 rw[List.getD_eq_getElem?_getD,List.getD_eq_getElem?_getD,List.getElem?_set];by_cases h:i=j
 ·subst h;simp[hi]
 ·rw[if_neg h,if_neg (fun e=>h e.symm)]
theorem eQ{l:List (List Int)}{a:Nat}(h:a<l.length):l.getD a []∈l:=by
 rw[List.getD_eq_getElem?_getD,List.getElem?_eq_getElem h];exact List.getElem_mem h
theorem nQ{l:List (List Int)}{s:List Int}(h:s∈l):∃ a,a<l.length∧l.getD a []=s:=by
 obtain⟨a,ha,hs⟩:=List.mem_iff_getElem.1 h;exact⟨a,ha,by rw[List.getD_eq_getElem?_getD,List.getElem?_eq_getElem ha];exact hs⟩
theorem zH{l m:List (List Int)}(hl:l.length=m.length)(h:∀ a,a<m.length→l.getD a []=m.getD a []):l=m:=by
 apply List.ext_getElem hl;intro a h1 h2;have:=h a h2;rw[List.getD_eq_getElem?_getD,List.getD_eq_getElem?_getD,List.getElem?_eq_getElem h1,List.getElem?_eq_getElem h2] at this;exact this
theorem G7(a b c d:Int):beN [a,b,c,d]=((a.toNat*256+b.toNat)*256+c.toNat)*256+d.toNat:=by
 unfold beN;simp
theorem K2{s:List Int}(h:Sec s):∃ a b c d:Int,s.drop 60=[a,b,c,d]∧bW s=((a.toNat*256+b.toNat)*256+c.toNat)*256+d.toNat∧0≤a∧0≤b∧0≤c:=by
 have hl:(s.drop 60).length=4:=by rw[List.length_drop,h.1]
 have hb:∀ x∈s.drop 60,0≤x:=fun x hx=>(h.2 x (List.mem_of_mem_drop hx)).1
 unfold bW
 match hs:s.drop 60,hl with
 | [a,b,c,d],_=>
  rw[hs] at hb;exact⟨a,b,c,d,rfl,by rw[← G7];rfl,hb a (by simp),hb b (by simp),hb c (by simp)⟩
theorem uZ{s:List Int}(h:Sec s)(ht:bW s<256):∃ d:Int,s.drop 60=[0,0,0,d]:=by
 obtain⟨a,b,c,d,e,et,ha,hb,hc⟩:=K2 h;refine⟨d,?_⟩;rw[e];have h1:a=0:=by omega
 have h2:b=0:=by omega
 have h3:c=0:=by omega
 rw[h1,h2,h3]
theorem G8{old new:List Int}(ho:Sec old)(hn:Sec new)(h1:bW old<256)(h2:bW new<256)(c:Int):bM old new c=new∨bW (bM old new c)=bW old:=by
 rcases Int.lt_or_le c 64 with hc|hc
 ·right
  have hk:fK c≤63:=by unfold fK;omega
  obtain⟨x,hx⟩:=uZ ho h1;obtain⟨y,hy⟩:=uZ hn h2;have e:(bM old new c).drop 60=old.drop 60:=by
   unfold bM;rcases Nat.lt_or_ge 60 (fK c) with hk2|hk2
   ·obtain⟨j,hj⟩:∃ j,fK c=60+j:=⟨fK c-60,by omega⟩;have hj3:j=1∨j=2∨j=3:=by omega
    rw[List.drop_append,List.drop_take,List.length_take,hn.1,hj,show 60+j-60=j by omega,hy,show 60-min (60+j) 64=0 by omega,List.drop_zero,← List.drop_drop,hx];rcases hj3 with rfl|rfl|rfl <;> rfl
   ·rw[List.drop_append,List.drop_eq_nil_of_le (by rw[List.length_take];omega),List.nil_append,List.length_take,hn.1,Nat.min_eq_left (by omega),List.drop_drop,show fK c+(60-fK c)=60 by omega]
  unfold bW;rw[e]
 ·exact .inl (lL c ho.1 hn.1 hc)
theorem DD(g:Nat)(p:List Int)(hp:p.length≤54)(hg:g<4294967296):bW (rec g p)=g:=by
 unfold bW;rw[rH g p hp,List.take_of_length_le (by rw[bB];exact Nat.le_refl _),lK];omega
theorem lP(g:Nat){q:aW}(hq:EntOk q)(hg:g<4294967296):bW (aD g q)=g:=DD g _ (mM hq) hg
theorem jG(g:Nat)(hg:g<4294967296):bW (rec g toll)=g:=DD g _ (by decide) hg
def Near(sec:List (List Int))(W:List (Int×List Int))(sec':List (List Int)):Prop:=
 sec'.length=sec.length∧∀ a:Nat,a<sec.length→sec'.getD a []=sec.getD a []∨∃ s,((a:Int),s)∈W∧(sec'.getD a []=s∨bW (sec'.getD a [])=bW (sec.getD a []))
theorem Near.mono{sec sec':List (List Int)}{W V:List (Int×List Int)}(h:Near sec W sec')(hs:∀ p∈W,p∈V):Near sec V sec':=
 ⟨h.1,fun a ha=>(h.2 a ha).imp id (fun⟨s,h1,h2⟩=>⟨s,hs _ h1,h2⟩)⟩
theorem Near.refl(sec:List (List Int))(W:List (Int×List Int)):Near sec W sec:=⟨rfl,fun _ _=>.inl rfl⟩
theorem Near.nil{sec sec':List (List Int)}(h:Near sec [] sec'):sec'=sec:=
 zH h.1 fun a ha=>(h.2 a ha).elim id (fun⟨_,h1,_⟩=>by cases h1)
theorem iM{sec:List (List Int)}{opn:List (Int×List Int)}(hs:∀ s∈sec,Sec s)(ho:∀ p∈opn,0≤p.1∧p.1<sec.length∧Sec p.2)(hn:(opn.map (·.1)).Nodup)(ht:∀ s∈sec,bW s<256)(hto:∀ p∈opn,bW p.2<256)(cl:List Int):Near sec opn (bK sec opn cl):=by
 unfold bK;generalize (fun j=>cl.getD j 0)=cut;have hinj:∀ i j (hi:i<opn.length) (hj:j<opn.length),opn[i].1=opn[j].1→i=j:=fun i j hi hj e=>by
  rw[List.nodup_iff_pairwise_ne,List.pairwise_map,List.pairwise_iff_getElem] at hn;rcases Nat.lt_trichotomy i j with h|h|h
  ·exact absurd e (hn i j hi hj h)
  ·exact h
  ·exact absurd e.symm (hn j i hj hi h)
 have key:∀ j,j≤opn.length→∀ a:Nat,a<sec.length→((∀ i (hi:i<opn.length),i<j→opn[i].1≠a)→(cP cut sec opn j).getD a []=sec.getD a [])∧(∀ i (hi:i<opn.length),i<j→opn[i].1=a→(cP cut sec opn j).getD a []=opn[i].2∨bW ((cP cut sec opn j).getD a [])=bW (sec.getD a [])):=by
  intro j;induction j with
  | zero=>exact fun _ a _=>⟨fun _=>rfl,fun i _ h=>by omega⟩
  | succ j ih=>
   intro hj a ha;have hlt:j<opn.length:=by omega
   have hp:=ho _ (List.getElem_mem hlt);have hk:opn[j].1.toNat<(cP cut sec opn j).length:=by rw[eS];omega
   have hgd:opn.getD j (0,[])=opn[j]:=by simp[hlt]
   rw[cP,hgd,fO _ _ _ _ hk];obtain⟨i1,i2⟩:=ih (by omega) a ha;by_cases hak:a=opn[j].1.toNat
   ·rw[if_pos hak];have hka:opn[j].1=a:=by omega
    refine⟨fun hno=>absurd hka (hno j hlt (by omega)),fun i hi hij he=>?_⟩;have hij2:i=j:=hinj i j hi hlt (he.trans hka.symm);subst hij2;have hold:=i1 (fun i' hi' hlt' he'=>by have:=hinj i' i hi' hi (he'.trans hka.symm);omega);rw[← hak,hold];exact G8 (hs _ (eQ ha)) hp.2.2 (ht _ (eQ ha)) (hto _ (List.getElem_mem hlt)) _
   ·rw[if_neg hak];refine⟨fun hno=>i1 (fun i hi hij=>hno i hi (by omega)),fun i hi hij he=>i2 i hi ?_ he⟩;rcases Nat.lt_or_ge i j with h|h
    ·exact h
    ·have:i=j:=by omega
     subst this;omega
 refine⟨eS _ _ _ _,fun a ha=>?_⟩;obtain⟨k1,k2⟩:=key opn.length (Nat.le_refl _) a ha;by_cases hex:∃ i,∃ hi:i<opn.length,opn[i].1=a
 ·obtain⟨i,hi,he⟩:=hex;exact .inr ⟨opn[i].2,by rw[← he];exact List.getElem_mem hi,k2 i hi hi he⟩
 ·exact .inl (k1 (fun i hi _ he=>hex ⟨i,hi,he⟩))
theorem Near.tags{sec sec':List (List Int)}{W:List (Int×List Int)}{K:Nat}(h:Near sec W sec')(ht:∀ s∈sec,bW s≤K)(hw:∀ p∈W,bW p.2≤K):∀ s∈sec',bW s≤K:=by
 intro s hs;obtain⟨a,ha,rfl⟩:=nQ hs;rw[h.1] at ha;rcases h.2 a ha with e|⟨t,h1,e|e⟩
 ·rw[e];exact ht _ (eQ ha)
 ·rw[e];exact hw _ h1
 ·rw[e];exact ht _ (eQ ha)
structure Live(sec:List (List Int))(h s g:Nat)(es:List aW):Prop where
 s2:s<2
 ln:h+h≤sec.length
 fit:es.length+1≤h
 g4:g<4294967296
 hd:sec.getD (aY h s) []=rec g toll
 en:∀ i (hi:i<es.length),sec.getD (aY h s+1+i) []=aD g es[i]
 eo:∀ q∈es,EntOk q∧aS q=true
 nx:∀ i,es.length≤i→i+1<h→bW (sec.getD (aY h s+1+i) [])≠g
 ot:bW (sec.getD (aY h (1-s)) [])<g
theorem jH(sec:List (List Int))(f h i:Nat)(hi:i<h)(_:f+h≤sec.length):((sec.drop f).take h).getD i []=sec.getD (f+i) []:=by
 rw[List.getD_eq_getElem?_getD,List.getD_eq_getElem?_getD,List.getElem?_take_of_lt hi,List.getElem?_drop]
theorem E1{sec:List (List Int)}{h s g:Nat}{es:List aW}(l:Live sec h s g es):bT (none,[]) ((sec.drop (aY h s)).take h)=(some g,es):=by
  obtain⟨f,hf⟩:=je (aY h s);have hfl:f+h≤sec.length:=by
    have:=l.ln;have:=l.s2;rw[hf];unfold aY;split <;> omega
  have h1:=l.fit;have hL:((sec.drop f).take h).length=h:=by rw[List.length_take,List.length_drop];omega
  obtain⟨R,hR⟩:=je (((sec.drop f).take h).drop (es.length+1));have hRl:R.length=h-(es.length+1):=by rw[hR,List.length_drop,hL]
  have e:(sec.drop f).take h=rec g toll :: (es.map (aD g)++R):=by
    apply zH
    · rw[hL,List.length_cons,List.length_append,List.length_map,hRl];omega
    · intro a ha;have ha2:a<h:=by rw[List.length_cons,List.length_append,List.length_map,hRl] at ha;omega
      rw[jH _ _ _ _ ha2 hfl]
      match a with
      | 0=>rw[Nat.add_zero,hf,l.hd];rfl
      | a+1=>
        show _=(es.map (aD g)++R).getD a [];rcases Nat.lt_or_ge a es.length with hlt|hge
        · have h2:=l.en a hlt;rw[← hf] at h2;rw[show f+(a+1)=f+1+a by omega,h2,List.getD_eq_getElem?_getD,List.getElem?_append_left (by rw[List.length_map];exact hlt)];simp[hlt]
        · rw[List.getD_eq_getElem?_getD (l:=es.map (aD g)++R),List.getElem?_append_right (by rw[List.length_map];exact hge),List.length_map,hR,List.getElem?_drop,← List.getD_eq_getElem?_getD,show es.length+1+(a-es.length)=a+1 by omega,jH _ _ _ _ ha2 hfl]
  rw[← hf,e,EH g l.g4,uC g l.g4 es [] _ l.eo,List.nil_append];cases hr:R with
  | nil=>rfl
  | cons x R'=>
    have hx:x=sec.getD (f+1+es.length) []:=by
      have h2:R.getD 0 []=x:=by rw[hr];rfl
      have hlt:0<R.length:=by rw[hr];simp
      rw[← h2,hR,List.getD_eq_getElem?_getD,List.getElem?_drop,← List.getD_eq_getElem?_getD,jH _ _ _ _ (by omega) hfl];congr 1;omega
    have hnx := l.nx es.length (Nat.le_refl _) (by have : 0 < R.length := by rw [hr]; simp
                                                   omega)
    refine EI (fun g' e' hp he=>hnx ?_);rw[← hf,← hx,← he];exact(F0 hp).symm
theorem zI{L:List (List Int)}{g:Nat}(h:(bT (none,[]) L).1=some g):∃ x,L.head? = some x∧fH x=some g:=by
 cases L with
 | nil=>simp[bT] at h
 | cons x L=>
  rw[bT] at h;unfold eM at h;simp only at h;cases hp:fH x with
  | none=>rw[hp] at h;simp at h
  | some g2=>
   rw[hp] at h;simp only[Option.map_some] at h;have hk:∀(L:List (List Int)) (es:List aW),(bT (some g2,es) L).1=some g2:=fun L es=>by
    obtain⟨more,hm,_⟩:=pB g2 L es;rw[hm]
   rw[hk] at h;exact⟨x,rfl,hp.trans h⟩
theorem G9{s:List Int}{g:Nat}(h:fH s=some g):bW s=g:=by
 unfold fH at h;cases hp:prs s with
 | none=>rw[hp] at h;cases h
 | some x=>
  obtain⟨g',p⟩:=x;rw[hp] at h;simp only at h;split at h
  ·injection h with h
   subst h;exact(qC hp).symm
  ·cases h
theorem BH{sec:List (List Int)}{h s g:Nat}{es:List aW}(l:Live sec h s g es):∀ g',(bT (none,[]) ((sec.drop (aY h (1-s))).take h)).1=some g'→g'<g:=by
 intro g' hg;obtain⟨x,hx,hp⟩:=zI hg;have hfit:=l.fit;have hln:=l.ln;have hx2:x=sec.getD (aY h (1-s)) []:=by
  have hfl:aY h (1-s)+h≤sec.length:=by unfold aY;split <;> omega
  have:=jH sec (aY h (1-s)) h 0 (by omega) hfl;rw[Nat.add_zero] at this;rw[← this,List.getD_eq_getElem?_getD,← List.head?_eq_getElem?,hx];rfl
 have h1:=G9 hp;have h2:=l.ot;rw[← hx2] at h2;omega
theorem BI{d:DiskD}{s g:Nat}{es:List aW}(l:Live d.sec (d.sec.length/2) s g es):kK d=(some es,⟨s,bV d d.sec.length,g,es.length,false⟩):=by
 have h1:=E1 l;have h2:=BH l;unfold kK;generalize d.sec.length/2=h at *
 have hs:=l.s2;have hs2:s=0∨s=1:=by omega
 rcases hs2 with rfl|rfl
 ·have e1:fAt d h ⟨0,bV d d.sec.length,0,0,false⟩ 1=(some es,⟨0,bV d d.sec.length,g,es.length,false⟩):=by
   show fA 0 (dD d (aY h 0) h) (none,_)=_;have e:dD d (aY h 0) h=(some g,es):=h1;rw[fZ (g:=g) (by rw[e]) (.inl rfl),e]
  show fA 1 (dD d (aY h 1) h) (fAt d h _ 1)=_;rw[e1];cases hg:(dD d (aY h 1) h).1 with
  | none=>exact eP hg
  | some g'=>exact uL hg rfl (Nat.le_of_lt (h2 g' hg))
 ·have e1:(fAt d h ⟨0,bV d d.sec.length,0,0,false⟩ 1).1=none∨(fAt d h ⟨0,bV d d.sec.length,0,0,false⟩ 1).2.gen<g:=by
   show(fA 0 (dD d (aY h 0) h) (none,_)).1=none∨(fA 0 (dD d (aY h 0) h) (none,_)).2.gen<g;cases hg:(dD d (aY h 0) h).1 with
   | none=>rw[eP hg];exact .inl rfl
   | some g'=>rw[fZ hg (.inl rfl)];exact .inr (h2 g' hg)
  have e2:(fAt d h ⟨0,bV d d.sec.length,0,0,false⟩ 1).2.last=bV d d.sec.length∧(fAt d h ⟨0,bV d d.sec.length,0,0,false⟩ 1).2.brk=false:=by
   show(fA 0 (dD d (aY h 0) h) (none,_)).2.last=_∧(fA 0 (dD d (aY h 0) h) (none,_)).2.brk=_;cases hg:(dD d (aY h 0) h).1 with
   | none=>rw[eP hg];exact⟨rfl,rfl⟩
   | some g'=>rw[fZ hg (.inl rfl)];exact⟨rfl,rfl⟩
  show fA 1 (dD d (aY h 1) h) (fAt d h _ 1)=_;have e:dD d (aY h 1) h=(some g,es):=h1;rw[fZ (g:=g) (by rw[e]) e1,e];show(some es,LogD.mk 1 (fAt d h _ 1).2.last g es.length (fAt d h _ 1).2.brk)=_;rw[e2.1,e2.2]
theorem vC{d:DiskD}(hd:d.down=false)(ho:d.opn=[])(i:Nat)(hi:i<d.sec.length):rdS d i=d.sec.getD i []:=by
 unfold rdS rdD eD;rw[hd,ho];simp;omega
theorem zJ{d:DiskD}(hd:d.down=false)(ho:d.opn=[]):∀ k,k≤d.sec.length→∀ i,i<k→bW (d.sec.getD i [])≤bV d k
 | 0,_,i,h=>by omega
 | k+1,hk,i,h=>by
  unfold bV;rcases Nat.lt_or_ge i k with h1|h1
  ·have:=zJ hd ho k (by omega) i h1;omega
  ·have:i=k:=by omega
   subst this;rw[vC hd ho i (by omega)];omega
theorem nR{d:DiskD}(hd:d.down=false)(ho:d.opn=[])(K:Nat)(ht:∀ s∈d.sec,bW s≤K):∀ k,k≤d.sec.length→bV d k≤K
 | 0,_=>Nat.zero_le _
 | k+1,hk=>by
  unfold bV;have h1:=nR hd ho K ht k (by omega);rw[vC hd ho k (by omega)];have h2:=ht _ (eQ (show k<d.sec.length by omega));omega
def iN(c:Nat):List Int:=(rec 1 toll).take c++zsec.drop c
structure Fresh(sec:List (List Int))(h:Nat):Prop where
 h1:1≤h
 ln:h+h≤sec.length
 ex:∃ c,c<64∧sec.getD 0 []=iN c
 zs:∀ a,0<a→a<sec.length→sec.getD a []=zsec
theorem E2:(List.range 64).all (fun c=>(fH (iN c)).isNone && (bW (iN c) == 0))=true:=by kernel_rfl
theorem mT{c:Nat}(h:c<64):fH (iN c)=none∧bW (iN c)=0:=by
 have:=List.all_eq_true.1 E2 c (List.mem_range.2 h);simpa using this
theorem H0:(rec 1 toll).length=64:=d9 1 toll (by decide)
theorem H5:zsec.length=64:=by simp[zsec]
theorem BJ(c:Nat)(hc:c<64)(k:Int):bM (iN c) (rec 1 toll) k=rec 1 toll∨∃ c',c'<64∧bM (iN c) (rec 1 toll) k=iN c':=by
 have h1:=H0;have hz:=H5;have hp:(iN c).length=64:=by unfold iN;rw[List.length_append,List.length_take,List.length_drop,h1,hz];omega
 rcases Int.lt_or_le k 64 with hk|hk
 ·right
  have hk2:fK k≤63:=by unfold fK;omega
  obtain⟨j,hj⟩:=je (fK k);rw[← hj] at hk2;rcases Nat.lt_or_ge j c with h|h
  ·refine⟨c,hc,?_⟩;unfold bM iN;rw[← hj,List.drop_append,List.length_take,h1,show j-min c 64=0 by omega,List.drop_zero,← List.append_assoc,List.drop_take];congr 1;rw[show c=j+(c-j) by omega,List.take_add,show j+(c-j)-j=c-j by omega]
  ·refine⟨j,by omega,?_⟩;unfold bM iN;rw[← hj,List.drop_append,List.drop_eq_nil_of_le (by rw[List.length_take];omega),List.nil_append,List.length_take,h1,List.drop_drop,show c+(j-min c 64)=j by omega]
 ·exact .inl (lL k hp h1 hk)
def Good(P:Nat→List aW→Prop)(h:Nat)(sec:List (List Int)):Prop:=(∃ s g es,Live sec h s g es∧P g es)∨(Fresh sec h∧P 0 [])
theorem Good.imp{P P':Nat→List aW→Prop}{h:Nat}{sec:List (List Int)}(k:Good P h sec)(hp:∀ g es,P g es→P' g es):Good P' h sec:=
 Or.imp (fun⟨s,g,es,h1,h2⟩=>⟨s,g,es,h1,hp _ _ h2⟩) (fun⟨h1,h2⟩=>⟨h1,hp _ _ h2⟩) k
structure SA(P:Nat→List aW→Prop)(N K:Nat)(d:DiskD)(L:LogD)(es:List aW):Prop where
 brk:L.brk=false
 opn:d.opn=[]
 len:d.sec.length=N
 lv:Live d.sec (N/2) L.side L.gen es
 cnt:L.cnt=es.length
 p:P L.gen es
 tg:∀ s∈d.sec,bW s≤max L.last L.gen
 k:max L.last L.gen≤K
structure SB(P:Nat→List aW→Prop)(N K:Nat)(d:DiskD):Prop where
 nd:(d.opn.map (·.1)).Nodup
 len:d.sec.length=N
 tg:∀ s∈d.sec,bW s≤K
 tw:∀ p∈d.opn,bW p.2≤K
 gd:∀ cl,Good P (N/2) (bK d.sec d.opn cl)
theorem iD(sec:List (List Int))(cl:List Int):bK sec [] cl=sec:=by unfold bK;rfl
theorem BK(sec:List (List Int))(a:Nat)(s:List Int)(cl:List Int):bK sec [((a:Int),s)] cl=sec.set a (bM (sec.getD a []) s (cl.getD 0 0)):=by
 unfold bK;simp[cP]
theorem xO(sec:List (List Int))(opn:List (Int×List Int))(hsec:∀ s∈sec,Sec s)(hopn:∀ p∈opn,0≤p.1∧p.1<sec.length∧Sec p.2):∃ cl,bK sec opn cl=dJ sec opn opn.length:=by
 refine⟨List.replicate opn.length 64,?_⟩;unfold bK;have key:∀ j,j≤opn.length→cP (fun j=>(List.replicate opn.length 64).getD j 0) sec opn j=dJ sec opn j:=by
  intro j;induction j with
  | zero=>exact fun _=>rfl
  | succ j ih=>
   intro hj;have hlt:j<opn.length:=by omega
   have hp:=hopn _ (List.getElem_mem hlt);have hgd:opn.getD j (0,[])=opn[j]:=by simp[hlt]
   have h64:(List.replicate opn.length (64:Int)).getD j 0=64:=by simp[hlt]
   rw[cP,dJ,ih (by omega),hgd,h64];have hl:opn[j].1.toNat<(dJ sec opn j).length:=by rw[fE];omega
   have hs:Sec ((dJ sec opn j).getD opn[j].1.toNat []):=by
    rw[← ih (by omega)];exact iA _ sec opn hsec hopn j (by omega) _ (by
     have h2:opn[j].1.toNat<(cP (fun j=>(List.replicate opn.length 64).getD j 0) sec opn j).length:=by rw[eS];omega
     exact eQ h2)
   rw[lL 64 hs.1 hp.2.2.1 (by omega)]
 exact key _ (Nat.le_refl _)
theorem SA.sb{P:Nat→List aW→Prop}{N K:Nat}{d:DiskD}{L:LogD}{es:List aW}(h:SA P N K d L es):SB P N K d where
 nd:=by rw[h.opn];exact List.nodup_nil
 len:=h.len
 tg:=fun s hs=>Nat.le_trans (h.tg s hs) h.k
 tw:=fun p hp=>by rw[h.opn] at hp;cases hp
 gd:=fun cl=>by rw[h.opn,iD];exact .inl ⟨_,_,_,h.lv,h.p⟩
theorem SB.imp{P P':Nat→List aW→Prop}{N K K':Nat}{d:DiskD}(h:SB P N K d)(hp:∀ g es,P g es→P' g es)(hK:K≤K'):SB P' N K' d:=
 ⟨h.nd,h.len,fun s hs=>Nat.le_trans (h.tg s hs) hK,fun p hq=>Nat.le_trans (h.tw p hq) hK,fun cl=>(h.gd cl).imp hp⟩
theorem SA.imp{P P':Nat→List aW→Prop}{N K K':Nat}{d:DiskD}{L:LogD}{es:List aW}(h:SA P N K d L es)(hp:P L.gen es→P' L.gen es)(hK:K≤K'):SA P' N K' d L es:=
 ⟨h.brk,h.opn,h.len,h.lv,h.cnt,hp h.p,h.tg,Nat.le_trans h.k hK⟩
theorem SA.disk{P:Nat→List aW→Prop}{N K:Nat}{d d':DiskD}{L:LogD}{es:List aW}(h:SA P N K d L es)(hs:d'.sec=d.sec)(ho:d'.opn=d.opn):SA P N K d' L es:=
 ⟨h.brk,ho.trans h.opn,by rw[hs];exact h.len,by rw[hs];exact h.lv,h.cnt,h.p,by rw[hs];exact h.tg,h.k⟩
theorem SB.disk{P:Nat→List aW→Prop}{N K:Nat}{d d':DiskD}(h:SB P N K d)(hs:d'.sec=d.sec)(ho:d'.opn=d.opn):SB P N K d':=
 ⟨by rw[ho];exact h.nd,by rw[hs];exact h.len,by rw[hs];exact h.tg,by rw[ho];exact h.tw,by rw[hs,ho];exact h.gd⟩
def Rst(sec:List (List Int))(W:List (Int×List Int))(d:DiskD):Prop:=(d.sec=sec∧∃ j,d.opn=W.take j)∨(d.opn=[]∧∃ j cl,d.sec=bK sec (W.take j) cl)
theorem sS{d:DiskD}{a:Int}{x:Int×Option Int}(h:writeA d a=some x)(hb:eD d a=true)(s:List Int):(x.1=11∨x.1=12)∧(((writeD d a s).sec=d.sec∧(writeD d a s).opn=d.opn)∨((writeD d a s).opn=[]∧∃ cl,(writeD d a s).sec=bK d.sec (d.opn++[(a,s)]) cl)):=by
 unfold writeA at h;unfold writeD;cases hd:d.down with
 | true=>
  rw[hd] at h;simp only[if_true,Option.some.injEq] at h;exact⟨by rw[← h];exact .inr rfl,.inl ⟨rfl,rfl⟩⟩
 | false=>
  rw[hd] at h;simp only[Bool.false_eq_true,if_false] at h ⊢;split at h
  ·rename_i h2;rw[if_pos h2];simp only[Option.some.injEq] at h;refine⟨by rw[← h];exact .inr rfl,.inr ⟨rfl,d7 d,?_⟩⟩;unfold addIf;rw[show eD (stepped d) a=eD d a from rfl,hb];rfl
  ·rename_i h2;split at h
   ·rename_i h1;rw[if_neg h2,if_pos h1];simp only[Option.some.injEq] at h;exact⟨by rw[← h];exact .inl rfl,.inl ⟨rfl,rfl⟩⟩
   ·simp[hb] at h
theorem oP{d:DiskD}{x:Int×Option Int}(h:syncA d=some x):(x.1=11∨x.1=12)∧(((syncS d).sec=d.sec∧(syncS d).opn=d.opn)∨((syncS d).opn=[]∧∃ cl,(syncS d).sec=bK d.sec d.opn cl)):=by
 unfold syncA at h;unfold syncS;cases hd:d.down with
 | true=>
  rw[hd] at h;simp only[if_true,Option.some.injEq] at h;exact⟨by rw[← h];exact .inr rfl,.inl ⟨rfl,rfl⟩⟩
 | false=>
  rw[hd] at h;simp only[Bool.false_eq_true,if_false] at h ⊢;split at h
  ·rename_i h2;rw[if_pos h2];simp only[Option.some.injEq] at h;exact⟨by rw[← h];exact .inr rfl,.inr ⟨rfl,d7 d,rfl⟩⟩
  ·rename_i h2;split at h
   ·rename_i h1;rw[if_neg h2,if_pos h1];simp only[Option.some.injEq] at h;exact⟨by rw[← h];exact .inl rfl,.inl ⟨rfl,rfl⟩⟩
   ·cases h
theorem xP{d:DiskD}{a:Int}{s:List Int}{x:Int×Option Int}(ho:d.opn=[])(hb:eD d a=true)(h:wsA d a s=some x):(x.1=11∨x.1=12)∧Rst d.sec [(a,s)] (wsD d a s):=by
 unfold wsA at h;unfold wsD;cases hw:writeA d a with
 | some y=>
  rw[hw] at h;simp only[Option.some.injEq] at h;subst h;obtain⟨h1,h2⟩:=sS hw hb s;rw[ho] at h2;refine⟨h1,?_⟩;rcases h2 with ⟨h2,h3⟩|⟨h2,cl,h3⟩
  ·exact .inl ⟨h2,0,h3⟩
  ·exact .inr ⟨h2,1,cl,h3⟩
 | none=>
  rw[hw] at h;simp only at h;obtain⟨_,_,hW⟩:=iX hw s;obtain⟨h1,h2⟩:=oP h;rw[hW] at h2;have hs:(q7 (stepped d) a s).sec=d.sec:=rfl;have hop:(q7 (stepped d) a s).opn=[(a,s)]:=by show d.opn++[(a,s)]=_;rw[ho];rfl
  rw[hs,hop] at h2;refine⟨h1,?_⟩;rw[hW];rcases h2 with ⟨h2,h3⟩|⟨h2,cl,h3⟩
  ·exact .inl ⟨h2,1,h3⟩
  ·exact .inr ⟨h2,1,cl,h3⟩
theorem sU:∀(L:List (List Int)) (d d':DiskD) (a:Int) (x:Int×Option Int),fillW d a L=(some x,d')→0≤a→a.toNat+L.length≤d.sec.length→(x.1=11∨x.1=12)∧Rst d.sec (d.opn++wrs a L) d'
 | [],d,d',a,x,h,_,_=>by
  unfold fillW at h;injection h with h1 h2
  obtain⟨k1,k2⟩:=oP h1;rw[h2] at k2;refine⟨k1,?_⟩;rcases k2 with ⟨k2,k3⟩|⟨k2,cl,k3⟩
  ·exact .inl ⟨k2,d.opn.length,by rw[k3];simp[wrs]⟩
  ·exact .inr ⟨k2,d.opn.length,cl,by rw[k3];simp[wrs]⟩
 | s :: L,d,d',a,x,h,h0,hl=>by
  rw[List.length_cons] at hl;have hb:eD d a=true:=by unfold eD;simp;omega
  unfold fillW at h;cases hw:writeA d a with
  | some y=>
   rw[hw] at h;simp only[Prod.mk.injEq,Option.some.injEq] at h;obtain⟨rfl,rfl⟩:=h;obtain⟨k1,k2⟩:=sS hw hb s;refine⟨k1,?_⟩;rcases k2 with ⟨k2,k3⟩|⟨k2,cl,k3⟩
   ·exact .inl ⟨k2,d.opn.length,by rw[k3];simp⟩
   ·refine .inr ⟨k2,d.opn.length+1,cl,?_⟩;rw[k3,wrs,List.take_append,List.take_of_length_le (by omega),show d.opn.length+1-d.opn.length=1 by omega];rfl
  | none=>
   rw[hw] at h;simp only at h;obtain⟨_,_,hW⟩:=iX hw s;have hs:(writeD d a s).sec=d.sec:=by rw[hW];rfl
   have hop:(writeD d a s).opn=d.opn++[(a,s)]:=by rw[hW];rfl
   have ih:=sU L _ d' (a+1) x h (by omega) (by rw[hs];omega);rw[hs,hop,List.append_assoc] at ih;exact ih
theorem SB.of_rst{P:Nat→List aW→Prop}{N K:Nat}{sec:List (List Int)}{W:List (Int×List Int)}{d:DiskD}(h:Rst sec W d)(hlen:sec.length=N)(hsec:∀ s∈sec,Sec s)(hw:∀ p∈W,0≤p.1∧p.1<sec.length∧Sec p.2)(hnd:(W.map (·.1)).Nodup)(ht:∀ s∈sec,bW s≤K)(hto:∀ p∈W,bW p.2≤K)(hK:K<256)
  (hg:∀ j cl,Good P (N/2) (bK sec (W.take j) cl)):SB P N K d:=by
 have hnj:∀ j,((W.take j).map (·.1)).Nodup:=fun j=>by rw[List.map_take];exact hnd.sublist (List.take_sublist _ _)
 have hnear:∀ j cl,Near sec (W.take j) (bK sec (W.take j) cl):=fun j cl=>iM hsec (fun p hp=>hw p (List.mem_of_mem_take hp)) (hnj j) (fun s hs=>by have:=ht s hs;omega) (fun p hp=>by have:=hto p (List.mem_of_mem_take hp);omega) cl
 rcases h with ⟨h1,j,h2⟩|⟨h1,j,cl,h2⟩
 ·exact⟨by rw[h2];exact hnj j,by rw[h1];exact hlen,by rw[h1];exact ht,by rw[h2];exact fun p hp=>hto p (List.mem_of_mem_take hp),fun cl=>by rw[h1,h2];exact hg j cl⟩
 ·exact⟨by rw[h1];exact List.nodup_nil,by rw[h2,cU];exact hlen,by rw[h2];exact(hnear j cl).tags ht (fun p hp=>hto p (List.mem_of_mem_take hp)),by rw[h1];exact(fun p hp=>by cases hp),fun cl'=>by rw[h1,iD,h2];exact hg j cl⟩
theorem SB.crash{P:Nat→List aW→Prop}{N K:Nat}{d:DiskD}(h:SB P N K d)(hk:DOk d)(hK:K<256)(cl:List Int):SB P N K (eE d cl) where
 nd:=List.nodup_nil
 len:=(cU _ _ _).trans h.len
 tg:=(iM hk.sec hk.opn h.nd (fun s hs=>by have:=h.tg s hs;omega) (fun p hp=>by have:=h.tw p hp;omega) cl).tags h.tg h.tw
 tw:=fun p hp=>by cases hp
 gd:=fun cl'=>by
  show Good P (N/2) (bK (bK d.sec d.opn cl) [] cl');rw[iD];exact h.gd cl
theorem SA.crash{P:Nat→List aW→Prop}{N K:Nat}{d:DiskD}{L:LogD}{es:List aW}(h:SA P N K d L es)(cl:List Int):SA P N K (eE d cl) L es:=by
 have h1:(eE d cl).sec=d.sec:=by show bK d.sec d.opn cl=_;rw[h.opn,iD]
 exact h.disk h1 (by rw[h.opn];rfl)
theorem pO{h s:Nat}(hs:s<2):(aY h s=0∧aY h (1-s)=h)∨(aY h s=h∧aY h (1-s)=0):=by
 have:s=0∨s=1:=by omega
 rcases this with rfl|rfl
 ·exact .inl ⟨rfl,rfl⟩
 ·exact .inr ⟨rfl,rfl⟩
theorem lQ{sec sec':List (List Int)}{h s g:Nat}{es:List aW}(l:Live sec h s g es)(hl:sec'.length=sec.length)(h1:∀ a,aY h s≤a→a≤aY h s+es.length→sec'.getD a []=sec.getD a [])
  (h2:∀ a,aY h s+es.length<a→a<aY h s+h→bW (sec'.getD a [])=bW (sec.getD a [])) (h3:bW (sec'.getD (aY h (1-s)) [])=bW (sec.getD (aY h (1-s)) [])):Live sec' h s g es where
 s2:=l.s2
 ln:=by rw[hl];exact l.ln
 fit:=l.fit
 g4:=l.g4
 hd:=(h1 _ (Nat.le_refl _) (by omega)).trans l.hd
 en:=fun i hi=>(h1 _ (by omega) (by omega)).trans (l.en i hi)
 eo:=l.eo
 nx:=fun i hi hh=>by rw[h2 _ (by omega) (by omega)];exact l.nx i hi hh
 ot:=by rw[h3];exact l.ot
theorem zK{sec sec':List (List Int)}{h s g:Nat}{es:List aW}{q:aW}(l:Live sec h s g es)(hq:EntOk q)(hr:aS q=true)(hf:es.length+2≤h)(hl:sec'.length=sec.length)(hp:sec'.getD (aY h s+1+es.length) []=aD g q)
  (ho:∀ a,a<sec.length→a≠aY h s+1+es.length→sec'.getD a []=sec.getD a []):Live sec' h s g (es++[q]):=by
 have hln:=l.ln;have hsd:=pO (h:=h) l.s2;have hlen:(es++[q]).length=es.length+1:=by simp
 refine⟨l.s2,by rw[hl];exact l.ln,by rw[hlen];omega,l.g4,?_,?_,?_,?_,?_⟩
 ·rw[ho _ (by omega) (by omega)];exact l.hd
 ·intro i hi;rw[hlen] at hi;rcases Nat.lt_or_ge i es.length with h1|h1
  ·rw[ho _ (by omega) (by omega),l.en i h1,List.getElem_append_left h1]
  ·have:i=es.length:=by omega
   subst this;rw[hp,List.getElem_append_right (Nat.le_refl _)];simp
 ·intro x hx;rcases List.mem_append.1 hx with h1|h1
  ·exact l.eo x h1
  ·rw[List.mem_singleton] at h1;rw[h1];exact⟨hq,hr⟩
 ·intro i hi hh;rw[hlen] at hi;rw[ho _ (by omega) (by omega)];exact l.nx i (by omega) hh
 ·rw[ho _ (by omega) (by omega)];exact l.ot
theorem xQ:∀(L:List (List Int)) (b:Int) (p:Int×List Int),p∈wrs b L→b≤p.1∧p.1<b+L.length∧p.2∈L
 | [],_,_,h=>by cases h
 | s :: L,b,p,h=>by
  rw[wrs,List.mem_cons] at h;rw[List.length_cons];rcases h with rfl|h
  ·exact⟨Int.le_refl _,by omega,List.mem_cons_self ..⟩
  ·have:=xQ L (b+1) p h;exact⟨by omega,by omega,List.mem_cons_of_mem _ this.2.2⟩
theorem oQ:∀(L:List (List Int)) (b:Int),((wrs b L).map (·.1)).Nodup
 | [],_=>List.nodup_nil
 | s :: L,b=>by
  rw[wrs,List.map_cons,List.nodup_cons];refine⟨fun hm=>?_,oQ L _⟩;rw[List.mem_map] at hm;obtain⟨p,hp,he⟩:=hm;have:=xQ L _ p hp;have h1:=this.1;rw[he] at h1;simp only at h1;omega
theorem sV{sec L:List (List Int)}{b:Nat}(hb:b+L.length≤sec.length)(a:Nat):(setAll sec (wrs (b:Int) L)).getD a []=if b≤a∧a<b+L.length then L.getD (a-b) [] else sec.getD a []:=by
 rw[CM L b sec (by omega) (by rw[Int.toNat_natCast];exact hb),Int.toNat_natCast];have hbl:(sec.take b).length=b:=by rw[List.length_take];omega
 rw[List.append_assoc];split
 ·rename_i h;rw[List.getD_eq_getElem?_getD,List.getElem?_append_right (by omega),hbl,List.getElem?_append_left (by omega),← List.getD_eq_getElem?_getD]
 ·rename_i h;rcases Nat.lt_or_ge a b with h1|h1
  ·rw[List.getD_eq_getElem?_getD,List.getElem?_append_left (by omega),List.getElem?_take_of_lt h1,← List.getD_eq_getElem?_getD]
  ·rw[List.getD_eq_getElem?_getD,List.getElem?_append_right (by omega),hbl,List.getElem?_append_right (by omega),List.getElem?_drop,← List.getD_eq_getElem?_getD];congr 1;omega
theorem xR(g:Nat):Sec (rec g toll):=⟨d9 g toll (by decide),qA g toll jD⟩
theorem sW{d:DiskD}{a:Nat}(h:a<d.sec.length):eD d (a:Int)=true:=by unfold eD;simp;exact h
theorem oR{L:LogD}{c:Int}(h:c=11∨c=12):iT L c={ L with brk:=true }:=by unfold iT;rw[if_pos h]
theorem kG{L:LogD}{c:Int}(h:c≠11∧c≠12):iT L c=L:=by unfold iT;rw[if_neg (fun e=>e.elim h.1 h.2)]
theorem gC{h:Nat}(h1:1≤h):room (h:Int)=(h:Int)-1:=by unfold room;rw[if_neg (by omega)]
theorem zL(d:DiskD)(f z p:Int)(g:Nat)(q:aW)(h1:1≤p):(room z<p∧putA d f z p g q=some (13,none)∧putD d f z p g q=d)∨(¬room z<p∧aS q=false∧putA d f z p g q=some (15,none)∧putD d f z p g q=d)∨(¬room z<p∧aS q=true∧putA d f z p g q=wsA d (f+p) (aD g q)∧putD d f z p g q=wsD d (f+p) (aD g q)):=by
 unfold putA putD;have hp:¬p<1:=by omega
 simp only[if_neg hp];by_cases h2:room z<p
 ·simp only[if_pos h2];exact .inl ⟨h2,trivial,trivial⟩
 ·simp only[if_neg h2];cases hr:aS q with
  | false=>exact .inr (.inl ⟨h2,rfl,rfl,rfl⟩)
  | true=>exact .inr (.inr ⟨h2,rfl,rfl,rfl⟩)
theorem E3{P P':Nat→List aW→Prop}{N K:Nat}{d:DiskD}{L:LogD}{es:List aW}(h:SA P N K d L es)(hk:DOk d)(hK:K<256){q:aW}(hq:EntOk q)(hP:P' L.gen es)(hP2:P' L.gen (es++[q])):
  (lW d (N/2) L q=none∧SA P' N K (appD d (N/2) L q) (iI d (N/2) L q) (es++[q])∧(iI d (N/2) L q).gen=L.gen) ∨
  (∃ x,lW d (N/2) L q=some x∧(x.1=11∨x.1=12)∧SB P' N K (appD d (N/2) L q)∧iI d (N/2) L q={ L with brk:=true }) ∨
  (∃ x,lW d (N/2) L q=some x∧x.1≠11∧x.1≠12∧appD d (N/2) L q=d∧iI d (N/2) L q=L):=by
 have hlv:=h.lv;have hfit:=hlv.fit;have hg4:=hlv.g4;have hsd:=pO (h:=N/2) hlv.s2;have hln:=hlv.ln;have hgk:L.gen≤K:=by have:=h.k;omega
 unfold lW appD iI;rw[h.brk];simp only[Bool.false_eq_true,if_false];generalize hh:N/2=hf at *
 rcases zL d (aY hf L.side) hf ((L.cnt+1:Nat):Int) L.gen q (by omega) with ⟨_,e1,e2⟩|⟨_,_,e1,e2⟩|⟨hr1,hrt,e1,e2⟩
 ·rw[e1,e2];exact .inr (.inr ⟨(13,none),rfl,by decide,by decide,rfl,kG ⟨by decide,by decide⟩⟩)
 ·rw[e1,e2];exact .inr (.inr ⟨(15,none),rfl,by decide,by decide,rfl,kG ⟨by decide,by decide⟩⟩)
 ·rw[e1,e2];rw[gC (by omega),h.cnt] at hr1;obtain⟨p,hp⟩:∃ p:Nat,p=aY hf L.side+1+es.length:=⟨_,rfl⟩;have hpi:(aY hf L.side:Int)+((L.cnt+1:Nat):Int)=(p:Int):=by have:=h.cnt;omega
  have hpl:p<d.sec.length:=by omega
  rw[hpi];cases hw:wsA d (p:Int) (aD L.gen q) with
  | some x=>
   obtain⟨hc,hrst⟩:=xP h.opn (sW hpl) hw;refine .inr (.inl ⟨x,rfl,hc,?_,oR hc⟩);refine SB.of_rst hrst h.len hk.sec (fun y hy=>?_) (by simp) (fun s hs=>Nat.le_trans (h.tg s hs) h.k) (fun y hy=>?_) hK (fun j cl=>?_)
   ·rw[List.mem_singleton] at hy;rw[hy];exact⟨by show(0:Int)≤p;omega,by show(p:Int)<_;omega,dX _ hq⟩
   ·rw[List.mem_singleton] at hy;rw[hy];show bW (aD _ _)≤_;rw[lP _ hq hg4];exact hgk
   ·rw[hh];have hnear:Near d.sec [((p:Int),aD L.gen q)] (bK d.sec (([((p:Int),aD L.gen q)]).take j) cl):=by
     refine(iM hk.sec (fun y hy=>?_) ?_ (fun s hs=>by have:=h.tg s hs;have:=h.k;omega) (fun y hy=>?_) cl).mono (fun y hy=>List.mem_of_mem_take hy)
     ·have hy:=List.mem_of_mem_take hy;rw[List.mem_singleton] at hy;rw[hy];exact⟨by show(0:Int)≤p;omega,by show(p:Int)<_;omega,dX _ hq⟩
     ·rw[List.map_take];exact List.Nodup.sublist (List.take_sublist _ _) (by simp)
     ·have hy:=List.mem_of_mem_take hy;rw[List.mem_singleton] at hy;rw[hy];show bW (aD _ _)<_;rw[lP _ hq hg4];omega
    generalize bK d.sec _ cl=sec' at hnear;have hoth:∀ a,a<d.sec.length→a≠p→sec'.getD a []=d.sec.getD a []:=fun a ha hne=>(hnear.2 a ha).elim id (fun⟨s,h1,_⟩=>by
     rw[List.mem_singleton] at h1
     injection h1 with h1 _
     omega)
    have hsame:bW (sec'.getD p [])=bW (d.sec.getD p [])∨sec'.getD p []=aD L.gen q:=(hnear.2 p hpl).elim (fun e=>.inl (by rw[e])) (fun⟨s,h1,h2⟩=>by
     rw[List.mem_singleton] at h1
     injection h1 with _ h1
     subst h1
     exact h2.symm)
    rcases hsame with hsm|hsm
    ·refine .inl ⟨_,_,_,lQ hlv hnear.1 (fun a h1 h2=>hoth a (by omega) (by omega)) (fun a h1 h2=>?_) (by rw[hoth _ (by omega) (by omega)]),hP⟩;by_cases ha:a=p
     ·rw[ha];exact hsm
     ·rw[hoth a (by omega) ha]
    ·exact .inl ⟨_,_,_,zK hlv hq hrt (by omega) hnear.1 (by rw[← hp];exact hsm) (fun a h1 h2=>hoth a h1 (by omega)),hP2⟩
  | none=>
   obtain⟨_,k2,k3⟩:=sM hw;rw[h.opn,List.nil_append] at k3;have hset:(wsD d (p:Int) (aD L.gen q)).sec=d.sec.set p (aD L.gen q):=k3;refine .inl ⟨rfl,⟨h.brk,k2,by rw[hset,List.length_set];exact h.len,?_,by show L.cnt+1=_;rw[h.cnt];simp,hP2,fun s hs=>?_,h.k⟩,rfl⟩
   ·rw[hh];show Live _ hf L.side L.gen _;refine zK hlv hq hrt (by omega) (by rw[hset,List.length_set]) ?_ (fun a h1 h2=>?_)
    ·rw[hset,fO _ _ _ _ hpl,if_pos hp.symm]
    ·rw[hset,fO _ _ _ _ hpl,if_neg (by omega)]
   ·show bW s≤max L.last L.gen;rw[hset] at hs;rcases List.mem_or_eq_of_mem_set hs with h1|h1
    ·exact h.tg s h1
    ·rw[h1,lP _ hq hg4];omega
end
end Go.Proofs.YtombncedfleljaaGreat
