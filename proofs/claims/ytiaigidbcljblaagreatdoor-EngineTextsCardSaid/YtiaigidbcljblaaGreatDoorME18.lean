import Derived.Test.YtiaigidbcljblaaGreatDoorME17
set_option linter.unusedSimpArgs false
set_option maxRecDepth 100000
set_option maxHeartbeats 40000000
namespace Go.Proofs.YtiaigidbcljblaaGreatDoor
open Go.RowKit
attribute [local irreducible] wpQuiet wpAnyH
theorem getD_mem{l:List (List Int)}{a:Nat}(h:a<l.length):l.getD a []∈l:=by
 rw[List.getD_eq_getElem?_getD,List.getElem?_eq_getElem h]
 exact List.getElem_mem h
theorem mem_getD{l:List (List Int)}{s:List Int}(h:s∈l):∃ a,a<l.length∧l.getD a []=s:=by
 obtain⟨a,ha,hs⟩:=List.mem_iff_getElem.1 h
 exact⟨a,ha,by rw[List.getD_eq_getElem?_getD,List.getElem?_eq_getElem ha];exact hs⟩
theorem ext_getD{l m:List (List Int)}(hl:l.length=m.length)(h:∀ a,a<m.length→l.getD a []=m.getD a []):l=m:=by
 apply List.ext_getElem hl
 intro a h1 h2
 have:=h a h2
 rw[List.getD_eq_getElem?_getD,List.getD_eq_getElem?_getD,List.getElem?_eq_getElem h1,List.getElem?_eq_getElem h2] at this
 exact this
def Near(sec:List (List Int))(W:List (Int×List Int))(sec':List (List Int)):Prop:=
 sec'.length=sec.length∧∀ a:Nat,a<sec.length→sec'.getD a []=sec.getD a []∨∃ s,((a:Int),s)∈W∧(sec'.getD a []=s∨tagS (sec'.getD a [])=tagS (sec.getD a []))
theorem Near.mono{sec sec':List (List Int)}{W V:List (Int×List Int)}(h:Near sec W sec')(hs:∀ p∈W,p∈V):Near sec V sec':=
 ⟨h.1,fun a ha=>(h.2 a ha).imp id (fun⟨s,h1,h2⟩=>⟨s,hs _ h1,h2⟩)⟩
theorem Near.refl(sec:List (List Int))(W:List (Int×List Int)):Near sec W sec:=⟨rfl,fun _ _=>.inl rfl⟩
theorem Near.nil{sec sec':List (List Int)}(h:Near sec [] sec'):sec'=sec:=
 ext_getD h.1 fun a ha=>(h.2 a ha).elim id (fun⟨_,h1,_⟩=>by cases h1)
structure Live(sec:List (List Int))(h s g:Nat)(es:List Ent2):Prop where
 s2:s<2
 ln:h+h≤sec.length
 fit:es.length+1≤h
 g4:g<4294967296
 hd:sec.getD (sFrom h s) []=rec g toll
 en:∀ i (hi:i<es.length),sec.getD (sFrom h s+1+i) []=entRec g es[i]
 eo:∀ q∈es,EntOk q∧rightE q=true
 nx:∀ i,es.length≤i→i+1<h→tagS (sec.getD (sFrom h s+1+i) [])≠g
 ot:tagS (sec.getD (sFrom h (1-s)) [])<g
theorem drop_getD(sec:List (List Int))(f h i:Nat)(hi:i<h)(_:f+h≤sec.length):((sec.drop f).take h).getD i []=sec.getD (f+i) []:=by
 rw[List.getD_eq_getElem?_getD,List.getD_eq_getElem?_getD,List.getElem?_take_of_lt hi,List.getElem?_drop]
theorem scan_gen{L:List (List Int)}{g:Nat}(h:(scanL (none,[]) L).1=some g):∃ x,L.head? = some x∧prsH x=some g:=by
 cases L with
 | nil=>simp[scanL] at h
 | cons x L=>
  rw[scanL] at h
  unfold stepS at h
  simp only at h
  cases hp:prsH x with
  | none=>rw[hp] at h;simp at h
  | some g2=>
   rw[hp] at h
   simp only[Option.map_some] at h
   have hk:∀(L:List (List Int)) (es:List Ent2),(scanL (some g2,es) L).1=some g2:=fun L es=>by
    obtain⟨more,hm,_⟩:=scan_longer g2 L es
    rw[hm]
   rw[hk] at h
   exact⟨x,rfl,hp.trans h⟩
theorem rdS_still{d:DiskD}(hd:d.down=false)(ho:d.opn=[])(i:Nat)(hi:i<d.sec.length):rdS d i=d.sec.getD i []:=by
 unfold rdS rdD hasB
 rw[hd,ho]
 simp
 omega
theorem lastN_le{d:DiskD}(hd:d.down=false)(ho:d.opn=[])(K:Nat)(ht:∀ s∈d.sec,tagS s≤K):∀ k,k≤d.sec.length→lastN d k≤K
 | 0,_=>Nat.zero_le _
 | k+1,hk=>by
  unfold lastN
  have h1:=lastN_le hd ho K ht k (by omega)
  rw[rdS_still hd ho k (by omega)]
  have h2:=ht _ (getD_mem (show k<d.sec.length by omega))
  omega
def part1(c:Nat):List Int:=(rec 1 toll).take c++zsec.drop c
structure Fresh(sec:List (List Int))(h:Nat):Prop where
 h1:1≤h
 ln:h+h≤sec.length
 ex:∃ c,c<64∧sec.getD 0 []=part1 c
 zs:∀ a,0<a→a<sec.length→sec.getD a []=zsec
theorem part1_all:(List.range 64).all (fun c=>(prsH (part1 c)).isNone && (tagS (part1 c) == 0))=true:=by kernel_rfl
theorem part1_none{c:Nat}(h:c<64):prsH (part1 c)=none∧tagS (part1 c)=0:=by
 have:=List.all_eq_true.1 part1_all c (List.mem_range.2 h)
 simpa using this
def Good(P:Nat→List Ent2→Prop)(h:Nat)(sec:List (List Int)):Prop:=(∃ s g es,Live sec h s g es∧P g es)∨(Fresh sec h∧P 0 [])
theorem Good.imp{P P':Nat→List Ent2→Prop}{h:Nat}{sec:List (List Int)}(k:Good P h sec)(hp:∀ g es,P g es→P' g es):Good P' h sec:=
 Or.imp (fun⟨s,g,es,h1,h2⟩=>⟨s,g,es,h1,hp _ _ h2⟩) (fun⟨h1,h2⟩=>⟨h1,hp _ _ h2⟩) k
structure SA(P:Nat→List Ent2→Prop)(N K:Nat)(d:DiskD)(L:LogD)(es:List Ent2):Prop where
 brk:L.brk=false
 opn:d.opn=[]
 len:d.sec.length=N
 lv:Live d.sec (N/2) L.side L.gen es
 cnt:L.cnt=es.length
 p:P L.gen es
 tg:∀ s∈d.sec,tagS s≤max L.last L.gen
 k:max L.last L.gen≤K
structure SB(P:Nat→List Ent2→Prop)(N K:Nat)(d:DiskD):Prop where
 nd:(d.opn.map (·.1)).Nodup
 len:d.sec.length=N
 tg:∀ s∈d.sec,tagS s≤K
 tw:∀ p∈d.opn,tagS p.2≤K
 gd:∀ cl,Good P (N/2) (crashL d.sec d.opn cl)
theorem SB.imp{P P':Nat→List Ent2→Prop}{N K K':Nat}{d:DiskD}(h:SB P N K d)(hp:∀ g es,P g es→P' g es)(hK:K≤K'):SB P' N K' d:=
 ⟨h.nd,h.len,fun s hs=>Nat.le_trans (h.tg s hs) hK,fun p hq=>Nat.le_trans (h.tw p hq) hK,fun cl=>(h.gd cl).imp hp⟩
theorem SA.imp{P P':Nat→List Ent2→Prop}{N K K':Nat}{d:DiskD}{L:LogD}{es:List Ent2}(h:SA P N K d L es)(hp:P L.gen es→P' L.gen es)(hK:K≤K'):SA P' N K' d L es:=
 ⟨h.brk,h.opn,h.len,h.lv,h.cnt,hp h.p,h.tg,Nat.le_trans h.k hK⟩
theorem SA.disk{P:Nat→List Ent2→Prop}{N K:Nat}{d d':DiskD}{L:LogD}{es:List Ent2}(h:SA P N K d L es)(hs:d'.sec=d.sec)(ho:d'.opn=d.opn):SA P N K d' L es:=
 ⟨h.brk,ho.trans h.opn,by rw[hs];exact h.len,by rw[hs];exact h.lv,h.cnt,h.p,by rw[hs];exact h.tg,h.k⟩
theorem SB.disk{P:Nat→List Ent2→Prop}{N K:Nat}{d d':DiskD}(h:SB P N K d)(hs:d'.sec=d.sec)(ho:d'.opn=d.opn):SB P N K d':=
 ⟨by rw[ho];exact h.nd,by rw[hs];exact h.len,by rw[hs];exact h.tg,by rw[ho];exact h.tw,by rw[hs,ho];exact h.gd⟩
theorem sides{h s:Nat}(hs:s<2):(sFrom h s=0∧sFrom h (1-s)=h)∨(sFrom h s=h∧sFrom h (1-s)=0):=by
 have:s=0∨s=1:=by omega
 rcases this with rfl|rfl
 ·exact .inl ⟨rfl,rfl⟩
 ·exact .inr ⟨rfl,rfl⟩
end Go.Proofs.YtiaigidbcljblaaGreatDoor
