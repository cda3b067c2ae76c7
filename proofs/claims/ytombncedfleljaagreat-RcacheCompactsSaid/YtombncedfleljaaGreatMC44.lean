import Derived.Test.YtombncedfleljaaGreatMC41
set_option linter.unusedVariables false
set_option linter.unusedSimpArgs false
set_option maxRecDepth 100000
set_option maxHeartbeats 40000000
namespace Go.Proofs.YtombncedfleljaaGreat
open Go.RowKit
attribute [local irreducible] wpQuiet wpAnyH
def PC(A B:EL)(now:Int):Nat→List aW→Prop:=fun _ es=>aE (bN es) now=aE A now∨aE (bN es) now=aE B now
structure CL(S:EL)(now:Int)(N K:Nat)(d:DiskD)(C:CacheD):Prop where
 sa:∃ es,SA (PC S S now) N K d C.L es
 wl:WL C.E
 le:aE C.E now=aE S now
theorem CL.more{S:EL}{now:Int}{N K K':Nat}{d:DiskD}{C:CacheD}(h:CL S now N K d C)(hK:K≤K'):CL S now N K' d C:=by
 obtain⟨es,h1⟩:=h.sa;exact⟨⟨es,h1.imp (fun h=>h) hK⟩,h.wl,h.le⟩
theorem CL.brk{S:EL}{now:Int}{N K:Nat}{d:DiskD}{C:CacheD}(h:CL S now N K d C):C.L.brk=false:=by
 obtain⟨es,h1⟩:=h.sa;exact h1.brk
theorem CL.sb{S:EL}{now:Int}{N K:Nat}{d:DiskD}{C:CacheD}(h:CL S now N K d C):SB (PC S S now) N K d:=by
 obtain⟨es,h1⟩:=h.sa;exact h1.sb
theorem CL.disk{S:EL}{now:Int}{N K:Nat}{d d':DiskD}{C:CacheD}(h:CL S now N K d C)(hs:∀ P L es,SA P N K d L es→SA P N K d' L es):CL S now N K d' C:=by
 obtain⟨es,h1⟩:=h.sa;exact⟨⟨es,hs _ _ _ h1⟩,h.wl,h.le⟩
theorem SB.left{A B:EL}{now:Int}{N K:Nat}{d:DiskD}(h:SB (PC A A now) N K d):SB (PC A B now) N K d:=h.imp (fun _ _ h=>.inl (h.elim id id)) (Nat.le_refl _)
theorem xU{d:DiskD}{h:Nat}{C:CacheD}{q:aW}{now:Int}(hb:C.L.brk=true):(insR d h C q now).1=(if fI C.E q.1 now then 8 else 9)∧(insR d h C q now).2=(d,C):=by
 unfold insR;rw[if_pos hb];split
 ·exact⟨rfl,rfl⟩
 ·exact⟨rfl,rfl⟩
theorem xV{d:DiskD}{h:Nat}{C:CacheD}{now:Int}(hb:C.L.brk=true):cmpR d h C now=(some (11,none),d,C):=by
 have e:rewR d h C.L (aE C.E now)=(some (11,none),d,C.L):=by unfold rewR;rw[if_pos hb]
 unfold cmpR;rw[e]
theorem SB.startC{P:Nat→List aW→Prop}{N K:Nat}{d:DiskD}(h:SB P N K d):SB P N K (dW d):=h.disk rfl rfl
theorem IN{P:Program}{f:FuncId}{args:Array Value}{w:World}{R:Ending→World→Prop}(h:Calls P f args w R):∃ e w',R e w':=by
 obtain⟨e,w',_,h1,_⟩:=h [];exact⟨e,w',h1⟩
structure VF(w:World)(m:DiskM)(F:List Nat)(v:Value)(es:EL):Prop where
 sn:Sn w 33 v es.length (es.flatMap aC)
 nf:∀ b,v.ownBlock=some b→Far m F b∧b<w.heap.size
section
variable {w w' : World} {m m' : DiskM} {d d' : DiskD} {F F' : List Nat} {v : Value} {es : EL}
theorem VF.keep(h:VF w m F v es)(hb:Below w.heap.size w w'):VF w' m F v es:=⟨h.sn.below hb,fun b e=>⟨(h.nf b e).1,Nat.lt_of_lt_of_le (h.nf b e).2 hb.size⟩⟩
theorem VF.ct(h:VF w m F v es)(ht:CT F w m w' m'):VF w' m' F v es:=
 ⟨ht.fo.sn h.sn (fun b e hm=>(List.mem_append.1 hm).elim (h.nf b e).1.2 (h.nf b e).1.1.1),fun b e=>⟨ht.far (h.nf b e).2 (h.nf b e).1,Nat.lt_of_lt_of_le (h.nf b e).2 ht.fo.size⟩⟩
theorem VF.re(h:VF w m F v es)(hF:∀ b∈F',w.heap.size≤b):VF w m F' v es:=
 ⟨h.sn,fun b e=>⟨⟨(h.nf b e).1.1,fun hm=>by have:=hF b hm;have:=(h.nf b e).2;omega⟩,(h.nf b e).2⟩⟩
theorem VF.new(hk:DK w m d)(hF:∀ b∈F,b<w.heap.size)(hs:Sn w' 33 v es.length (es.flatMap aC))(ho:∀ b,v.ownBlock=some b→w.heap.size≤b∧b<w'.heap.size):VF w' m F v es:=
 ⟨hs,fun b e=>⟨⟨Apart.fresh hk (ho b e).1,fun hm=>by have:=hF b hm;have:=(ho b e).1;omega⟩,(ho b e).2⟩⟩
theorem VF.nil:VF w m F (.slice none 0 0) []:=⟨⟨none,0,rfl,Nat.le_refl _,rfl,fun h=>absurd h (by simp)⟩,fun b e=>by cases e⟩
end
def IP(S:EL):Option aW→EL
 | none=>S
 | some q=>(aM S q).1
def KD:Option CacheD→Bool
 | none=>true
 | some C=>C.L.brk
def KC(w0 w:World)(m:DiskM)(d:DiskD)(k N:Nat)(now:Int)(cv:Value)(F:List Nat)(S:EL)(M:Option aW)(co:Option CacheD):Prop:=
 (cv = .pointer none∧F=[]∧co=none∧SB (PC S (IP S M) now) N k d) ∨
 (∃ gc gl gi bi n C,cv = .pointer (some ⟨gc,0,none⟩)∧F=[gl,bi]∧co=some C∧CK w m d gc gl gi bi (N/2) n C∧n≤20+k∧w0.heap.size≤gl∧w0.heap.size≤bi ∧
  ((C.L.brk=true∧SB (PC S (IP S M) now) N k d)∨(M=none∧CL S now N k d C)))
structure KB(w0 w:World)(m:DiskM)(d:DiskD)(k N:Nat)(F:List Nat)(vs vm:Value)(S:EL)(M:Option aW):Prop where
 st:St w0 w m d
 rm:d.room≤200*k
 len:d.sec.length=N
 s:VF w m F vs S
 m:VF w m F vm M.toList
 wl:WL S
 sl:S.length≤20+k
 mo:∀ q∈M.toList,EntOk q
section
variable {w0 w w' : World} {m m' : DiskM} {d d' : DiskD} {k N : Nat} {now : Int} {cv : Value} {F : List Nat} {vs vm : Value} {S : EL} {M : Option aW} {co : Option CacheD}
theorem KC.keep(h:KC w0 w m d k N now cv F S M co)(hb:Below w.heap.size w w'):KC w0 w' m d k N now cv F S M co:=
 h.imp id (fun⟨gc,gl,gi,bi,n,C,h1,h2,hc,h3,h4⟩=>⟨gc,gl,gi,bi,n,C,h1,h2,hc,h3.keep hb,h4⟩)
theorem KB.keep(h:KB w0 w m d k N F vs vm S M)(hb:Below w.heap.size w w'):KB w0 w' m d k N F vs vm S M:=
 ⟨h.st.keep hb,h.rm,h.len,h.s.keep hb,h.m.keep hb,h.wl,h.sl,h.mo⟩
theorem KC.more(h:KC w0 w m d k N now cv F S M co):KC w0 w m d (k+1) N now cv F S M co:=by
 rcases h with ⟨h1,h2,hc,h3⟩|⟨gc,gl,gi,bi,n,C,h1,h2,hc,h3,h4,h5,h6,h7⟩
 ·exact .inl ⟨h1,h2,hc,h3.imp (fun _ _ h=>h) (Nat.le_succ _)⟩
 ·exact .inr ⟨gc,gl,gi,bi,n,C,h1,h2,hc,h3,by omega,h5,h6,h7.imp (fun h=>⟨h.1,h.2.imp (fun _ _ h=>h) (Nat.le_succ _)⟩) (fun h=>⟨h.1,h.2.more (Nat.le_succ _)⟩)⟩
theorem KB.more(h:KB w0 w m d k N F vs vm S M):KB w0 w m d (k+1) N F vs vm S M:=
 ⟨h.st,by have:=h.rm;omega,h.len,h.s,h.m,h.wl,by have:=h.sl;omega,h.mo⟩
theorem KC.sb(h:KC w0 w m d k N now cv F S M co):SB (PC S (IP S M) now) N k d:=by
 rcases h with ⟨_,_,_,h3⟩|⟨gc,gl,gi,bi,n,C,h1,h2,hc,h3,h4,h5,h6,h7⟩
 ·exact h3
 ·rcases h7 with h|⟨h,h8⟩
  ·exact h.2
  ·subst h;exact h8.sb
theorem KC.far(h:KC w0 w m d k N now cv F S M co):∀ b∈F,w0.heap.size≤b∧b<w.heap.size:=fun b hb=>by
 rcases h with ⟨_,h2,_⟩|⟨gc,gl,gi,bi,n,C,h1,h2,hc,h3,h4,h5,h6,h7⟩
 ·rw[h2] at hb;cases hb
 ·rw[h2] at hb;simp at hb;rcases hb with rfl|rfl
  ·exact⟨h5,h3.lk.blk.lt⟩
  ·exact⟨h6,h3.ix.lt.2⟩
theorem KC.disk(h:KC w0 w m d k N now cv F S M co)(hk:DK w' m' d')(ht:DT w m w' m')(hl:d'.sec.length=d.sec.length)(h1:∀ P,SB P N k d→SB P N k d')(h2:∀ P L es,SA P N k d L es→SA P N k d' L es):KC w0 w' m' d' k N now cv F S M co:=by
 rcases h with ⟨a1,a2,ac,a3⟩|⟨gc,gl,gi,bi,n,C,a1,a2,ac,a3,a4,a5,a6,a7⟩
 ·exact .inl ⟨a1,a2,ac,h1 _ a3⟩
 ·exact .inr ⟨gc,gl,gi,bi,n,C,a1,a2,ac,a3.disk hk ht hl,a4,a5,a6,a7.imp (fun h=>⟨h.1,h1 _ h.2⟩) (fun h=>⟨h.1,h.2.disk h2⟩)⟩
theorem KB.ct(h:KB w0 w m d k N F vs vm S M)(hst:St w0 w' m' d')(ht:CT F w m w' m')(hl:d'.sec.length=d.sec.length)(hr:d'.room≤d.room+200):KB w0 w' m' d' (k+1) N F vs vm S M:=
 ⟨hst,by have:=h.rm;omega,hl.trans h.len,h.s.ct ht,h.m.ct ht,h.wl,by have:=h.sl;omega,h.mo⟩
theorem KB.disk(h:KB w0 w m d k N F vs vm S M)(hk:DK w' m' d')(ht:DT w m w' m')(hl:d'.sec.length=d.sec.length)(hr:d'.room≤d.room+200):KB w0 w' m' d' (k+1) N F vs vm S M:=
 h.ct (h.st.next hk ht) (CT.of_dt ht) hl hr
theorem DG{d:DiskD}(h:d.steps≤d.room)(hh:Nat)(C:CacheD)(q:aW)(now:Int)(h2:(cmpR d hh C now).2.1.steps≤(cmpR d hh C now).2.1.room):(insR d hh C q now).2.1.room≤d.room+2*C.E.length+7∧(insR d hh C q now).2.1.sec.length=d.sec.length:=by
 have ht:∀(d:DiskD) (C:CacheD),d.steps≤d.room→(insT d hh C q).2.1.room≤d.room+3∧(insT d hh C q).2.1.sec.length=d.sec.length:=fun d C h=>by
  have h1:=J8 h hh C.L q;have h2:=IB d hh C.L q;unfold insT;split
  ·exact⟨by show d.room≤_;omega,rfl⟩
  ·split
   ·exact⟨h1,h2⟩
   ·exact⟨h1,h2⟩
 have hc:=lS h hh C now;unfold insR;split
 ·exact⟨by show d.room≤_;omega,rfl⟩
 split
 ·exact⟨by show d.room≤_;omega,rfl⟩
 split
 ·exact⟨by show d.room≤_;omega,rfl⟩
 split
 ·exact⟨by show d.room≤_;omega,rfl⟩
 split
 ·split
  ·exact⟨by show(cmpR d hh C now).2.1.room≤_;omega,hc.2⟩
  ·have h3:=ht _ (cmpR d hh C now).2.2 h2;exact⟨by omega,h3.2.trans hc.2⟩
 ·have h3:=ht d C h;exact⟨by omega,h3.2⟩
theorem xW{gc gl gi bi h n:Nat}{C:CacheD}(kk:CK w m d gc gl gi bi h n C)(hn:n≤1000)(hr:d.room+30000≤100000)(now:Int):DOk (cmpR d h C now).2.1:=by
 obtain⟨e,w',_,m',h1,_⟩:=IN (oV now w m d gc gl gi bi h n C kk hn hr);exact h1.lk.dk.ok
theorem tQ(now:Int)(w:World):Calls Tryz.prog 13 #[.pointer none,.int .i64 now] w fun e w'=>e = .returned (cC (some (12,none)))∧w'=w:=by
 go_enter Tryz.func13,Tryz.ntmps13
 go_wp2_with fail
 go_ret;exact⟨rfl,rfl⟩
end
end Go.Proofs.YtombncedfleljaaGreat
