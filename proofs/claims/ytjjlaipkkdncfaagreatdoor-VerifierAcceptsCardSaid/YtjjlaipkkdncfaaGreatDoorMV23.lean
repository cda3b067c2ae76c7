import Derived.Test.YtjjlaipkkdncfaaGreatDoorMV16
import Derived.Test.YtjjlaipkkdncfaaGreatDoorMV15
import Derived.Test.YtjjlaipkkdncfaaGreatDoorMV12
set_option linter.unusedSimpArgs false
set_option maxRecDepth 100000
set_option maxHeartbeats 40000000
namespace Go.Proofs.YtjjlaipkkdncfaaGreatDoor
open Go.Proofs.Tryz
section
open Go.RowKit
attribute [local irreducible] wpQuiet wpAnyH
def qD(sec:List Wl)(opn:List (Int×Wl))(st r:Nat):DiskD:={ sec:=sec,opn:=opn,down:=false,steps:=st,fl:=λ_=>false,cr:=λ_=>none,room:=r }
theorem UI(n:Nat):gQ n=qD (List.replicate n zsec) [] 0 0:=rfl
theorem x9(sec:List Wl)(opn:List (Int×Wl))(st r:Nat):aW (qD sec opn st r)=qD sec opn (st+1) (max r (st+1)):=by
 unfold aW qD;simp
theorem FA(sec:List Wl)(opn:List (Int×Wl))(st r:Nat):iJ (qD sec opn st r)=0:=rfl
theorem TK{sec:List Wl}{opn:List (Int×Wl)}{st r:Nat}{a:Int}(h:0<=a)(D:a<sec.length):iR (qD sec opn st r) a=true:=by
 unfold iR;rw[decide_eq_true h,Bool.true_and];exact decide_eq_true D
theorem CU{sec:List Wl}{opn:List (Int×Wl)}{st r:Nat}{a:Int}(h:0<=a)(D:a<sec.length):fJ (qD sec opn st r) a=none:=by
 unfold fJ;rw[FA,TK h D];rfl
theorem CV{sec:List Wl}{opn:List (Int×Wl)}{st r:Nat}{a:Int}(h:0<=a)(D:a<sec.length)(s:Wl):bH (qD sec opn st r) a s=qD sec (opn++[(a,s)]) (st+1) (max r (st+1)+1):=by
 unfold bH;rw[FA,x9];unfold iT;rw[TK h D];rfl
theorem RS(sec:List Wl)(opn:List (Int×Wl))(st r:Nat):iU (qD sec opn st r)=none:=rfl
theorem IE(sec:List Wl)(opn:List (Int×Wl))(st r:Nat):cJ (qD sec opn st r)=qD (k8 sec opn opn.length) [] (st+1) (max r (st+1)):=by
 unfold cJ;rw[FA,x9];rfl
theorem TL{sec:List Wl}{opn:List (Int×Wl)}{st r:Nat}{a:Int}(h:0<=a)(D:a<sec.length)(s:Wl):wsA (qD sec opn st r) a s=none:=by
 unfold wsA;rw[CU h D,CV h D];rfl
theorem TM{sec:List Wl}{st r:Nat}{a:Int}(h:0<=a)(D:a<sec.length)(s:Wl):∃ r',st+2<=r'/\r'<=max r (st+2)+1/\wsD (qD sec [] st r) a s=qD (sec.set a.toNat s) [] (st+2) r':=by
 refine⟨max (max r (st+1)+1) (st+2),by omega,by omega,?_⟩;unfold wsD;rw[CU h D,CV h D];show cJ _=_;rw[IE];rfl
theorem vD{d:DiskD}(hd:d.down=false)(J:d.opn=[]):∀(n:Nat) (a:Int),0<=a->a.toNat+n<=d.sec.length->eC d a n=((d.sec.drop a.toNat).take n).map (λs=>(s,none))
 | 0,a,_,_=>by simp[eC]
 | n+1,a,h0,h=>by
  have D:a.toNat<d.sec.length:=by omega
  have I:iR d a=true:=by unfold iR;simp;omega
  have K:rdA d a=none:=by unfold rdA;rw[hd,I];rfl
  have O:rdS d a=d.sec[a.toNat]:=by
   unfold rdS;rw[hd,I];show rdD d a=_;unfold rdD;rw[J];simp[D]
  rw[eC,K,jP rfl,O,vD hd J n (a+1) (by omega) (by omega),List.drop_eq_getElem_cons D,List.take_succ_cons,List.map_cons,show(a+1).toNat=a.toNat+1 by omega]
def fV:SSt->List Wl->SSt
 | st,[]=>st
 | st,s :: r=>match iY st s with|some st'=>fV st' r|none=>st
theorem vF:∀(L:List Wl) (st:SSt),dF st (L.map (λs=>(s,none)))=(fV st L,none)
 | [],st=>rfl
 | s :: r,st=>by
  rw[List.map_cons];unfold dF fV;cases h:iY st s with
  | none=>rfl
  | some st'=>exact vF r st'
theorem rV(g:Nat):∀(L:List Wl) (es:List b8),∃ more,fV (some g,es) L=(some g,es++more)/\more.length<=L.length
 | [],es=>⟨[],by simp[fV],ja _⟩
 | s :: L,es=>by
  rw[fV];unfold iY;cases hp:oF s with
  | none=>exact⟨[],by simp,by simp⟩
  | some x=>
   obtain⟨g',e⟩:=x;by_cases hg:g'=g
   ·obtain⟨m,D,I⟩:=rV g L (es++[e]);refine⟨e :: m,?_,by simp;omega⟩;simp only[jP hg,D,List.append_assoc,List.singleton_append]
   ·refine⟨[],?_,by simp⟩;simp only[jQ hg,List.append_nil]
structure LogD where
 side:Nat
 last:Nat
 gen:Nat
 cnt:Nat
 brk:Bool
def bU(g h:Nat)(L:LogD):Wa:=#[.pointer (some ⟨g,0,none⟩),.int .i64 0,.int .i64 h,.int .i64 h,.int .i64 h,.int .i64 L.side,.int .u32 L.last,.int .u32 L.gen,.int .i64 L.cnt,.bool L.brk]
structure LogOk(d:DiskD)(h:Nat)(L:LogD):Prop where
 side:L.side<2
 last:L.last<4294967296
 gen:L.gen<4294967296
 cnt:L.cnt<=10000
 half:h=d.sec.length/2
structure LK(w:Wd)(m:DiskM)(d:DiskD)(gl h:Nat)(L:LogD):Prop where
 dk:DK w m d
 blk:Blk w gl 141 (bU m.g h L)
 ap:Apart m gl
 ok:LogOk d h L
structure LT(gl:Nat)(w:Wd)(m:DiskM)(w':Wd)(m':DiskM):Prop where
 g:m'.g=m.g
 fo:Fo (gl :: aZ m) w w'
 sub:∀ k∈aZ m',k∈aZ m\/w.heap.size<=k
 cv:∀ k v,m'.cv k=some v->m.cv k=some v\/∀ b,v.ownBlock=some b->w.heap.size<=b
section
variable {w w' w'' : Wd} {m m' m'' : DiskM} {d d' : DiskD} {gl h : Nat} {L L' : LogD}
theorem Fo.wide{F G:List Nat}(h:Fo F w w')(hs:∀ x∈F,x∈G):Fo G w w':=⟨h.os,h.tape,h.output,h.size,λk D J=>h.block k D (λI=>J (hs k I))⟩
theorem LT.of_dt(h:DT w m w' m'):LT gl w m w' m':=⟨h.g,h.fo.wide (λ_ D=>List.mem_cons_of_mem _ D),h.sub,h.cv⟩
theorem LT.of_below(h:Bw w w'):LT gl w m w' m:=LT.of_dt (DT.of_below h)
theorem LT.trans(h:LT gl w m w' m')(k:LT gl w' m' w'' m''):LT gl w m w'' m'':=
 ⟨k.g.trans h.g,h.fo.trans k.fo (λx D=>by
  rcases List.mem_cons.1 D with rfl|D
  ·exact .inl (List.mem_cons_self ..)
  ·exact(h.sub x D).imp (λh=>List.mem_cons_of_mem _ h) id),λx D=>by
  rcases k.sub x D with h1|h1
  ·exact h.sub x h1
  ·exact .inr (jm h.fo.size h1),λx v D=>by
  rcases k.cv x v D with h1|h1
  ·exact h.cv x v h1
  ·exact .inr (λb e=>jm h.fo.size (h1 b e))⟩
theorem LT.set(h:LT gl w m w' m')(i:Nat)(u:Value):LT gl w m (w'.setCell ⟨gl,i,none⟩ u) m':=⟨h.g,h.fo.set gl i (List.mem_cons_self ..) u,h.sub,h.cv⟩
theorem LT.below{B:Nat}(h:LT gl w m w' m')(I:∀ k∈aZ m,B<=k)(hg:B<=gl)(D:B<=w.heap.size):Below B w w':=h.fo.below (λk J=>(List.mem_cons.1 J).elim (λe=>by omega) (I k)) D
theorem LT.le{B:Nat}(h:LT gl w m w' m')(D:∀ k∈aZ m,B<=k)(J:B<=w.heap.size):∀ k∈aZ m',B<=k:=λk I=>by
 rcases h.sub k I with h1|h1
 ·exact D k h1
 ·omega
theorem LK.keep(k:LK w m d gl h L)(hb:Bw w w'):LK w' m d gl h L:=⟨k.dk.keep hb,k.blk.keep hb,k.ap,k.ok⟩
theorem LogOk.len(k:LogOk d h L)(D:d'.sec.length=d.sec.length):LogOk d' h L:=⟨k.side,k.last,k.gen,k.cnt,by rw[D];exact k.half⟩
theorem LK.disk(k:LK w m d gl h L)(D:DK w' m' d')(ht:DT w m w' m')(I:d'.sec.length=d.sec.length):LK w' m' d' gl h L:=
 ⟨D,by rw[ht.g];exact(ht.off k.blk.lt k.ap.1).trans k.blk,k.ap.next k.blk.lt ht,k.ok.len I⟩
theorem LK.set(k:LK w m d gl h L)(i:Nat)(u:Value)(hc:(bU m.g h L).setIfInBounds i u=bU m.g h L')(ho:LogOk d h L'):LK (w.setCell ⟨gl,i,none⟩ u) m d gl h L':=
 have hb:Below gl w (w.setCell ⟨gl,i,none⟩ u):=(ji gl w).setCell (p:=⟨gl,i,none⟩) (ja _) _
 ⟨k.dk.offK (λj D=>Below.heap_setCell _ ⟨gl,i,none⟩ _ j D) hb.size k.ap,by rw[<- hc];exact k.blk.set_ i u,k.ap,ho⟩
theorem LK.cells(k:LK w m d gl h L):w.cell? ⟨gl,0,none⟩=some (.pointer (some ⟨m.g,0,none⟩))/\w.cell? ⟨gl,5,none⟩=some (.int .i64 L.side)/\w.cell? ⟨gl,6,none⟩=some (.int .u32 L.last)/\w.cell? ⟨gl,7,none⟩=some (.int .u32 L.gen)/\w.cell? ⟨gl,8,none⟩=some (.int .i64 L.cnt)/\w.cell? ⟨gl,9,none⟩=some (.bool L.brk):=
 ⟨(k.blk.cell 0).trans rfl,(k.blk.cell 5).trans rfl,(k.blk.cell 6).trans rfl,(k.blk.cell 7).trans rfl,(k.blk.cell 8).trans rfl,(k.blk.cell 9).trans rfl⟩
end
def bD(h s:Nat):Nat:=if s=0 then 0 else h
theorem pH{w:Wd}{gl g h:Nat}{L:LogD}(k:Blk w gl 141 (bU g h L))(s:Nat)(hs:s<2):w.rangeAt gl (1+s*2) [.int .i64 (bD h s),.int .i64 h]:=by
 intro j u D;rw[k.cell];have I:s=0\/s=1:=by omega
 rcases I with rfl|rfl
 all_goals
  match j with
  | 0=>simpa [bU,bD] using D
  | 1=>simpa [bU,bD] using D
  | j+2=>simp at D
theorem yA(w:Wd)(m:DiskM)(d:DiskD)(h:DK w m d):
  Wc 65 #[.pointer (some ⟨m.g,0,none⟩)] w λe w'=>e = .returned (.int .i64 d.sec.length)/\w'=w:=by
 obtain⟨A,cap,I,_⟩:=Sn.own h.sec;have D:=h.blk.cell 0;simp only[eX,jf,jg,I] at D;go_enter func65,ntmps65
 go_wp2_with fail
 go_ret;exact⟨rfl,rfl⟩
theorem yC(s:Wl)(w:Wd)(hl:s.length=64)(hb:Bys s):
  Wc 106 #[.agg (u8s s).toArray] w (Rt w (.int .u32 (beN ((s.drop 60).take 4)))):=by
 obtain⟨w1,D⟩:=je (w.alloc (.cells (u8s s).toArray 195));have O:Blk w1 w.heap.size 195 (u8s s).toArray:=by rw[D];exact Blk.new _ _ _
 have R:Bw w w1:=by rw[D];exact aV _ _
 have hd:(s.drop 60).length=4:=by rw[List.length_drop,hl]
 have a3:Hid (Sn w1 1 (.slice (some ⟨w.heap.size,60,none⟩) 4 4) (s.drop 60).length (u8s (s.drop 60))):=jz (by
  have:=Sn.of_blk O 60 4 4 (by omega) (by omega)
  rw[List.take_of_length_le (by omega)] at this
  rw[hd];exact this)
 have J:Hid (Bys (s.drop 60)):=jz (λc hc=>hb c (List.mem_of_mem_drop hc));have K:=jz R;have HD:=jz hd;have a1:Hid (beN ((s.drop 60).take 4)<4294967296):=jz (by
  have:=mI ((s.drop 60).take 4) (λc hc=>J.out c (j7 hc))
  rw[jv,hd] at this
  exact this)
 clear O R hd hl hb;go_enter func106,ntmps106
 go_upto_region 1 with fail
 rw[<- D];clear D;go_wp2_with fail
 refine(AP _ (s.drop 60) w1 a3 (by rw[HD.out];omega)).mono ?_;rintro e w2 ⟨r,v,rfl,hR,hr,U⟩;have HR:=jz hR;have I:=jz (aB K U);have a2:Hid (w.heap.size<=r):=jz (by have:=K.size;omega);clear hR hr U;go_wp2_with fail
 refine(gA r v (s.drop 60) false 4 w2 HR J (by rw[HD.out];omega) (by omega) (by omega)).mono ?_;rintro e w3 ⟨Z,⟨_,_,v3,rfl,a4⟩|⟨V,_,_⟩⟩
 ·have a0:Hid (Bw w w3):=jz (I.trans (Z.below a2 I.size));obtain⟨X,hX⟩:=je (beN ((s.drop 60).take 4));have a5:X<4294967296:=by rw[hX];exact a1.out
  rw[<- hX];have HX:=jz hX;have hi:(X:Int)<=4294967295:=by omega
  have h0:(0:Int)<=X:=by omega
  clear hX Z a4;go_wp2_with fail
  go_ret;exact⟨by rw[<- HX.out];rfl,a0⟩
 ·rcases V with h|h
  ·cases h
  ·rw[HD.out] at h;omega
def nZ(L:LogD)(c:Int):LogD:=if c=11\/c=12 then { L with brk:=true } else L
theorem vG(x:Ans)(w:Wd)(m:DiskM)(d:DiskD)(gl h:Nat)(L:LogD)(k:LK w m d gl h L):
  Wc 142 #[.pointer (some ⟨gl,0,none⟩),bV x] w λe w'=>e = .returned (bV x)/\LK w' m d gl h (nZ L (eY x))/\LT gl w m w' m:=by
 obtain⟨v,Z⟩:=je (bV x);have I:=jz (BL x w);rw[<- Z] at I ⊢;obtain⟨c,V⟩:=je (eY x);rw[<- V] at I ⊢;have O:=jz k;clear Z V k;rcases jb (c == 11) with R|R
 ·have J:Hid (nZ L c={ L with brk:=true }):=jz (by unfold nZ;rw[jP (.inl (by simpa using R))]);go_enter func142,ntmps142
  go_wp2_with fail
  refine I.mono ?_;rintro e K ⟨rfl,D⟩;have HK2:=jz (O.keep D);have HT2:Hid (LT gl w m K m):=jz (LT.of_below D);obtain⟨c0,c5,c6,c7,c8,c9⟩:=HK2.cells;have f9:=HK2.blk.frozen 9;clear D;go_wp2_with fail
  go_ret;exact⟨rfl,by rw[J.out];exact HK2.set 9 _ rfl ⟨HK2.ok.side,HK2.ok.last,HK2.ok.gen,HK2.ok.cnt,HK2.ok.half⟩,HT2.set 9 _⟩
 ·rcases jb (c == 12) with U|U
  ·have J:Hid (nZ L c={ L with brk:=true }):=jz (by unfold nZ;rw[jP (.inr (by simpa using U))]);go_enter func142,ntmps142
   go_wp2_with fail
   refine I.mono ?_;rintro e K ⟨rfl,D⟩;have HK2:=jz (O.keep D);have HT2:Hid (LT gl w m K m):=jz (LT.of_below D);obtain⟨c0,c5,c6,c7,c8,c9⟩:=HK2.cells;have f9:=HK2.blk.frozen 9;clear D;go_wp2_with fail
   go_ret;exact⟨rfl,by rw[J.out];exact HK2.set 9 _ rfl ⟨HK2.ok.side,HK2.ok.last,HK2.ok.gen,HK2.ok.cnt,HK2.ok.half⟩,HT2.set 9 _⟩
  ·have J:Hid (nZ L c=L):=jz (by unfold nZ;rw[jQ (λh=>h.elim (λe=>by simp[e] at R) (λe=>by simp[e] at U))]);go_enter func142,ntmps142
   go_wp2_with fail
   refine I.mono ?_;rintro e K ⟨rfl,D⟩;have HK2:=jz (O.keep D);have HT2:Hid (LT gl w m K m):=jz (LT.of_below D);clear D;go_wp2_with fail
   go_ret;exact⟨rfl,by rw[J.out];exact HK2,HT2⟩
def UJ(w:Wd)(gl:Nat)(g h:Nat)(L:LogD):Prop:=Blk w gl 141 (bU g h L)
theorem KB(w:Wd)(gl g h:Nat)(L:LogD)(k:UJ w gl g h L):Wc 137 #[.pointer (some ⟨gl,0,none⟩)] w λe w'=>e = .returned (.int .i64 L.cnt)/\w'=w:=by
 have c8:w.cell? ⟨gl,8,none⟩=some (.int .i64 L.cnt):=(Blk.cell k 8).trans rfl;go_enter func137,ntmps137
 go_wp2_with fail
 go_ret;exact⟨rfl,rfl⟩
theorem FB(w:Wd)(gl g h:Nat)(L:LogD)(k:UJ w gl g h L):Wc 136 #[.pointer (some ⟨gl,0,none⟩)] w λe w'=>e = .returned (.bool L.brk)/\w'=w:=by
 have c8:w.cell? ⟨gl,9,none⟩=some (.bool L.brk):=(Blk.cell k 9).trans rfl;go_enter func136,ntmps136
 go_wp2_with fail
 go_ret;exact⟨rfl,rfl⟩
end
section
open Go.RowKit
attribute [local irreducible] wpQuiet wpAnyH
def eN(d:DiskD)(f h:Nat):SSt:=fV (none,[]) ((d.sec.drop f).take h)
abbrev FSt:=Option (List b8)×LogD
def jY(k:Nat)(S:SSt)(p:FSt):FSt:=match S.1 with
 | none=>p
 | some g=>if p.1.isSome && decide (g<=p.2.gen) then p else (some S.2,{ p.2 with side:=k,gen:=g,cnt:=S.2.length })
def fAt(d:DiskD)(h:Nat)(L:LogD):Nat->FSt
 | 0=>(none,L)
 | k+1=>jY k (eN d (bD h k) h) (fAt d h L k)
theorem eT{w:Wd}{g:Nat}{t:TypeId}{old:Wa}{new:Wv}(D:Blk w g t old)(I:old.size=new.length):
  Blk (w.setCells g 0 new) g t new.toArray/\Off g w (w.setCells g 0 new)/\(w.setCells g 0 new).heap.size=w.heap.size:=by
 have h:=fS (t:=t) [] old.toList [] new (by simpa using D) (by simpa using I);simpa using h
theorem jZ:∀ w,(binOp .neq 46 .nilIface .nilIface).run prog w = .ok (.bool false) w:=λw=>by kernel_rfl
theorem lE(st:SSt)(A:Option Addr)(n cap:Nat):∀ u∈(stC st (.slice A n cap)).toList,u.oneCell'=true:=λu D=>by
 simp only[stC,jl,j8,or_false] at D;rcases D with rfl|rfl|rfl <;> rfl
structure FR(w wr:Wd)(m:DiskM)(d:DiskD)(gl h:Nat)(p:FSt)(v:Value):Prop where
 dk:DK wr m d
 blk:Blk wr gl 141 (bU m.g h p.2)
 own:wr.ownsRow w.heap.size 26 33 v (p.1.getD []).length ((p.1.getD []).flatMap aO)
 ok:∀ q∈p.1.getD [],EntOk q
 fo:Fo [gl] w wr
theorem FR.keep{w wr D:Wd}{m:DiskM}{d:DiskD}{gl h:Nat}{p:FSt}{v:Value}(k:FR w wr m d gl h p v)(hb:Bw wr D):FR w D m d gl h p v:=
 ⟨k.dk.keep hb,k.blk.keep hb,aE k.own hb,k.ok,k.fo.trans_same (Fo.of_below hb)⟩
theorem FR.put{w wr I J:Wd}{m:DiskM}{d:DiskD}{gl h:Nat}{p:FSt}{v vE:Value}(k:FR w wr m d gl h p v)(hb:Bw wr I)(K:List b8)(L:LogD)(ha:Apart m gl)(hg:gl<w.heap.size)
  (ho:I.ownsRow w.heap.size 26 33 vE K.length (K.flatMap aO)) (R:∀ q∈K,EntOk q) (hy:∀ j,j≠gl->J.heap[j]? = I.heap[j]?) (U:Blk J gl 141 (bU m.g h L)) (V:J.heap.size=I.heap.size) (D:J.os=I.os/\J.tape=I.tape/\J.output=I.output):
  FR w J m d gl h (some K,L) vE:=
 ⟨(k.dk.keep hb).offK hy (by omega) ha,U,aS ho (λb e=>hy b (by have:=(ho.lt b e).1;omega)),R,
  ⟨D.1.trans (hb.os.trans k.fo.os),D.2.1.trans (hb.tape.trans k.fo.tape),D.2.2.trans (hb.output.trans k.fo.output),by rw[V];exact jm k.fo.size hb.size,λj hj Z=>by
   have O:j≠gl:=λe=>Z (by simp[e])
   rw[hy j O,hb.block j (by have:=k.fo.size;omega)]
   exact k.fo.block j hj Z⟩⟩
structure FX(w wx:Wd)(m:DiskM)(d:DiskD)(gl h:Nat)(p:FSt)(v:Value)(SS:SSt)(gS:Nat)(vE:Value):Prop where
 fr:FR w wx m d gl h p v
 st:Blk wx gS 203 (stC SS vE)
 own:wx.ownsRow w.heap.size 26 33 vE SS.2.length (SS.2.flatMap aO)
 ok:∀ q∈SS.2,EntOk q
theorem FR.cut{w U J:Wd}{m:DiskM}{d:DiskD}{gl h:Nat}{p:FSt}{v:Value}(k:FR w U m d gl h p v){SS:SSt}{I:Nat}{K:Value}(V:Blk J I 203 stZ)
  (D:Blk (J.setCells I 0 (stC SS K).toList) I 203 (stC SS K).toList.toArray/\Off I J (J.setCells I 0 (stC SS K).toList)/\(J.setCells I 0 (stC SS K).toList).heap.size=J.heap.size)
  (R:J.ownsRow U.heap.size 26 33 K SS.2.length (SS.2.flatMap aO)) (O:Bw U J) (a1:U.heap.size<=I) (Z:∀ b,K.ownBlock=some b->b≠I) (a0:∀ q∈SS.2,EntOk q):
  FX w (J.setCells I 0 (stC SS K).toList) m d gl h p v SS I K:=
 have a2:=V.lt
 ⟨k.keep (O.trans ⟨D.2.1.os,D.2.1.tape,D.2.1.output,Nat.le_of_eq D.2.2.symm,λj hj=>D.2.1.block j (by have:=O.size;omega) (by omega)⟩),D.1,
  aT (aS R (λb e=>D.2.1.block b (R.lt b e).2 (Z b e))) k.fo.size,a0⟩
theorem i5{k:Nat}{S:SSt}{p:FSt}(h:S.1=none):jY k S p=p:=by unfold jY;rw[h]
theorem qW{k:Nat}{S:SSt}{p:FSt}{g:Nat}(h:S.1=some g)(D:p.1=none\/p.2.gen<g):jY k S p=(some S.2,{ p.2 with side:=k,gen:=g,cnt:=S.2.length }):=by
 unfold jY;rw[h];rcases D with D|D
 ·simp[D]
 ·have:¬g<=p.2.gen:=by omega
  simp[this]
theorem KC{k:Nat}{S:SSt}{p:FSt}{g:Nat}(h:S.1=some g){D:List b8}(I:p.1=some D)(hg:g<=p.2.gen):jY k S p=p:=by
 unfold jY;rw[h];simp[I,hg]
theorem nL:∀(L:List Wl) (st:SSt),(fV st L).2.length<=st.2.length+L.length
 | [],st=>by simp[fV]
 | s :: L,st=>by
  rw[fV];cases hq:iY st s with
  | none=>simp only;omega
  | some st'=>
   have:=nL L st';have D:=(JY hq).1;simp only[List.length_cons];omega
theorem FC{w:Wd}{gl g h:Nat}{L:LogD}(I:Blk w gl 141 (bU g h L))(s D c:Nat):
  Blk (((w.setCell ⟨gl,5,none⟩ (.int .i64 s)).setCell ⟨gl,7,none⟩ (.int .u32 D)).setCell ⟨gl,8,none⟩ (.int .i64 c)) gl 141 (bU g h { L with side:=s,gen:=D,cnt:=c }):=by
 have h1:=((I.set_ 5 (.int .i64 s)).set_ 7 (.int .u32 D)).set_ 8 (.int .i64 c);exact h1
theorem N2(w:Wd)(m:DiskM)(d:DiskD)(gl h:Nat)(L:LogD)(hk:DK w m d)(hb:Blk w gl 141 (bU m.g h L))(ha:Apart m gl)(hd:d.down=false)(ho:d.opn=[])(hh:h+h<=d.sec.length):
  Wc 69 #[.pointer (some ⟨gl,0,none⟩)] w λe w'=>∃ v,e = .returned (.tuple #[v,.bool (fAt d h L 2).1.isSome,.nilIface])/\FR w w' m d gl h (fAt d h L 2) v:=by
 have k5:=hk.ok.few;have g1:=jz ha;have g3:=hb.lt;have g0:Hid (FR w w m d gl h (fAt d h L 0) (.slice none 0 0)):=jz ⟨hk,hb,World.ownsRow_nil _ _ _ _,λq hq=>by simp[fAt] at hq,Fo.refl⟩;have g2:Hid (∀ W f,DK W m d->f<=h->Wc 107 #[.pointer (some ⟨m.g,0,none⟩),.agg #[.int .i64 (f:Nat),.int .i64 h]] W λe w'=>Bw W w'/\∃ v,e = .returned (.tuple #[.agg (stC (eN d f h) v),.nilIface])/\w'.ownsRow W.heap.size 26 33 v (eN d f h).2.length ((eN d f h).2.flatMap aO)/\∀ q∈(eN d f h).2,EntOk q):=jz (λW f f6 hf=>by
  have h1:=JZ (f:Nat) h W m d f6 ⟨by omega,by omega⟩ (by omega)
  rw[vD hd ho h (f:Nat) (by omega) (by simp;omega),vF,Int.toNat_natCast] at h1
  exact h1)
 have h2:Hid (∀ f,(eN d f h).2.length<=h):=jz (λf=>by
  have:=nL ((d.sec.drop f).take h) (none,[])
  rw[jv] at this
  unfold eN
  simp at this
  omega)
 have h0:Hid (∀ k,fAt d h L (k+1)=jY k (eN d (bD h k) h) (fAt d h L k)):=jz (λk=>rfl);have h9:Hid ((fAt d h L 0).1=none):=jz rfl;have m1:prog.built 203 []=some stZ:=T9;have k7:(h:Int)<=4096:=by omega
 clear hk hb hd ho ha;obtain⟨g9,f9⟩:=je m.g;have e8:Hid (m.g=g9):=jz f9.symm;have h8:Hid (Blk w gl 141 (bU g9 h L)):=jz (by rw[f9];exact g0.blk);have k0:Hid (w.rangeAt gl 1 [.int .i64 0,.int .i64 h,.int .i64 h,.int .i64 h]):=jz (λj u hj=>by
  rw[h8.cell]
  match j with
  | 0=>simpa [bU] using hj
  | 1=>simpa [bU] using hj
  | 2=>simpa [bU] using hj
  | 3=>simpa [bU] using hj
  | j+4=>simp at hj)
 rw[<- f9] at g2;clear f9;go_enter func69,ntmps69
 go_upto_region 3 with fail
 go_upto_region 4 with (refine ld 139 _ rfl rfl rfl k0 underlying139 rfl (by kernel_rfl) ?_)
 go_loopw [5,6,15] (λf v i wr=>∃ k:Nat,k<=2/\i = .int .i64 (k:Int)/\f = .bool (fAt d h L k).1.isSome/\Hid (FR w wr m d gl h (fAt d h L k) v)) (λ_ _ i _=>2-(intOf i).toNat)
 case atStart=>exact⟨0,by omega,rfl,rfl,g0⟩
 case round=>
  obtain⟨k,hk,rfl,rfl,HR⟩:=hrel;have k6:gl<wr.heap.size:=HR.blk.lt;have k3:k=0\/k=1\/k=2:=by omega
  rcases k3 with rfl|rfl|rfl
  ·obtain⟨p,hp⟩:=je (fAt d h L 0);obtain⟨SS,d4⟩:=je (eN d 0 h);have e7:Hid (SS.2.length<=h):=jz (by rw[d4];exact h2 _);have d7:Hid (fAt d h L 1=jY 0 SS p):=jz (by rw[d4,hp];exact h0 0);have d3:=jz (λW f6=>g2.out W 0 f6 (by omega));rw[<- d4] at d3;rw[<- hp] at HR ⊢;have HF:Hid (p.1=none):=jz (by rw[hp];exact h9);clear d4 hp;have e6:Hid (p.1.isSome=false):=jz (by rw[HF.out];rfl);rw[e6.out];have h5:∀ w,(Instr.index 139 (.agg #[.int .i64 0,.int .i64 h,.int .i64 h,.int .i64 h]) (.int .i64 0)).run prog w = .ok (.agg #[.int .i64 0,.int .i64 h]) w:=λw=>by kernel_rfl
   go_upto_region 6 with fail
   obtain⟨w2,b2⟩:=je (wr.alloc (.cells #[.int .i64 0,.int .i64 h] 138));have c4:Blk w2 wr.heap.size 138 #[.int .i64 0,.int .i64 h]:=by rw[b2];exact Blk.new _ _ _
   have e3:Bw wr w2:=by rw[b2];exact aV _ _
   rw[<- b2];clear b2;obtain⟨g8,e4⟩:=je wr.heap.size;rw[<- e4] at c4 ⊢;have d5:Hid (Blk w2 g8 138 #[.int .i64 0,.int .i64 h]):=jz c4;have f3:=jz (HR.keep e3);clear c4 e3 e4;go_cut [9,10] from 19 to 27 (λx y wx=>∃ K D I,x = .pointer (some ⟨K,0,none⟩)/\y = .nilIface/\Hid (FX w wx m d gl h p u6 SS K (.slice D SS.2.length I)))
   case first=>
    obtain⟨Z,a7⟩:=je w2.drew;have O:=jz (f3.keep (ji _ _).drew);rw[<- a7] at O;have f0:Hid (Blk Z gl 141 (bU g9 h p.2)):=jz (by rw[<- e8.out];exact O.blk);have b9:Hid (Blk Z g8 138 #[.int .i64 0,.int .i64 h]):=jz (by rw[a7];exact d5.keep (ji _ _).drew);refine kZ (n:=12) (λW=>Blk W gl 141 (bU g9 h p.2)/\Blk W g8 138 #[.int .i64 0,.int .i64 h]) (by rw[<- a7];exact⟨f0,b9⟩) (h:=λhH=>?_);rw[<- a7] at hH ⊢;clear a7;refine qM 0 (.pointer (some ⟨gl,0,none⟩)) ?_;refine qT 1 (.pointer (some ⟨gl,0,none⟩)) ?_;refine qT 2 (.pointer (some ⟨gl,0,none⟩)) ?_;refine qC 3 (v:=.pointer (some ⟨g9,0,none⟩)) (λ_ hX=>(hX.1.cell 0).trans rfl) ?_;refine qL 4 (cs:=[.int .i64 0,.int .i64 h]) (λ_ hX=>hX.2.range) (rfl) ?_;refine kCA 5 9 (some 25) (some 9) (zs:=stZ) uO ((d3 Z O.dk).mono ?_) ⟨hH.1.alloc _,hH.2.alloc _⟩ ?_
    ·rintro e w6 ⟨b1,vE,rfl,d1,a5⟩;obtain⟨D,I,rfl,_⟩:=Sn.own d1;refine⟨_,rfl,⟨hH.1.keep b1,hH.2.keep b1⟩,λa8=>?_⟩;simp only[jq];refine qM 6 (.tuple #[.agg (stC SS (.slice D SS.2.length I)),.nilIface]) ?_;refine qT 7 (.agg (stC SS (.slice D SS.2.length I))) ?_;refine qT 8 (.nilIface) ?_;refine kA 9 (some 9) (zs:=stZ) uO ⟨a8.1.alloc _,a8.2.alloc _⟩ (h:=?_);simp only[jq];obtain⟨w5,b3⟩:=je (w6.alloc (.cells stZ 203));obtain⟨K,V⟩:=je w6.heap.size;have U:Blk w5 K 203 stZ:=by rw[b3,V];exact Blk.new _ _ _
     have a0:Bw w6 w5:=by rw[b3];exact aV _ _
     have d2:=aE d1 a0;have c6:Bw Z w5:=aB b1 a0;have c7:Z.heap.size<=K:=by rw[V];exact b1.size
     have c9:∀ b,(Value.slice D SS.2.length I).ownBlock=some b->b≠K:=λb e=>by have:=(d1.lt b e).2;omega
     have J:Blk w5 gl 141 (bU g9 h p.2)/\Blk w5 g8 138 #[.int .i64 0,.int .i64 h]:=⟨a8.1.keep a0,a8.2.keep a0⟩;rw[<- b3,<- V];clear b3 V;have R:=eT (new:=(stC SS (.slice D SS.2.length I)).toList) U (by rfl);have c5:Blk (w5.setCells K 0 (stC SS (.slice D SS.2.length I)).toList) gl 141 (bU g9 h p.2)/\Blk (w5.setCells K 0 (stC SS (.slice D SS.2.length I)).toList) g8 138 #[.int .i64 0,.int .i64 h]:=⟨(R.2.1.block _ J.1.lt (by have:=O.blk.lt;omega)).trans J.1,(R.2.1.block _ J.2.lt (by have:=b9.lt;omega)).trans J.2⟩;refine kR 10 none (off:=0) (n:=3) (cs:=(stC SS (.slice D SS.2.length I)).toList) (bX U (ja _)) rfl (lE _ _ _ _) c5 (h:=?_);simp only[jq];refine qT 11 (.nilIface) ?_;refine kE (h:=?_);go_wp2_with fail
     go_meet
     exact⟨K,D,I,rfl,rfl,jz (O.cut U R d2 c6 c7 c9 a5)⟩
    ·simp only[jq];obtain⟨w4,a6⟩:=je (Z.alloc (.cells stZ 203));obtain⟨K,V⟩:=je Z.heap.size;have f4:Blk w4 K 203 stZ:=by rw[a6,V];exact Blk.new _ _ _
     have a9:Bw Z w4:=by rw[a6];exact aV _ _
     have h7:w4.heap.size=Z.heap.size+1:=by rw[a6];simp
     rw[<- a6,<- V];clear a6;refine kF 5 (some 25) ((d3 w4 (O.dk.keep a9)).mono ?_);rintro e w5 ⟨b0,vE,rfl,d0,a5⟩;obtain⟨D,I,rfl,_⟩:=Sn.own d0;refine⟨_,rfl,⟨(hH.1.keep a9).keep b0,(hH.2.keep a9).keep b0⟩,λJ=>?_⟩;simp only[jq];have U:=f4.keep b0;have d2:=aT (base':=Z.heap.size) d0 (by omega);have c6:Bw Z w5:=aB a9 b0;have c7:Z.heap.size<=K:=by omega
     have c9:∀ b,(Value.slice D SS.2.length I).ownBlock=some b->b≠K:=λb e=>by have:=(d0.lt b e).1;omega
     refine qM 6 (.tuple #[.agg (stC SS (.slice D SS.2.length I)),.nilIface]) ?_;refine qT 7 (.agg (stC SS (.slice D SS.2.length I))) ?_;refine qT 8 (.nilIface) ?_;have R:=eT (new:=(stC SS (.slice D SS.2.length I)).toList) U (by rfl);have c5:Blk (w5.setCells K 0 (stC SS (.slice D SS.2.length I)).toList) gl 141 (bU g9 h p.2)/\Blk (w5.setCells K 0 (stC SS (.slice D SS.2.length I)).toList) g8 138 #[.int .i64 0,.int .i64 h]:=⟨(R.2.1.block _ J.1.lt (by have:=O.blk.lt;omega)).trans J.1,(R.2.1.block _ J.2.lt (by have:=b9.lt;omega)).trans J.2⟩;refine kR 10 none (off:=0) (n:=3) (cs:=(stC SS (.slice D SS.2.length I)).toList) (bX U (ja _)) rfl (lE _ _ _ _) c5 (h:=?_);simp only[jq];refine qT 11 (.nilIface) ?_;refine kE (h:=?_);go_wp2_with fail
     go_meet
     exact⟨K,D,I,rfl,rfl,jz (O.cut U R d2 c6 c7 c9 a5)⟩
   case rest=>
   obtain⟨K,D,I,rfl,rfl,HC⟩:=hcut;obtain⟨w6,e5⟩:=je wc;rw[<- e5] at HC ⊢;clear e5;have c3:Hid (Blk w6 K 203 (stC SS (.slice D SS.2.length I))):=jz HC.st;have f1:=jz HC.own;have f2:=jz HC.ok;have a3:=jz HC.fr;have h4:gl<w6.heap.size:=a3.blk.lt;have e0:=c3.cell 0;have e1:=c3.cell 1;have e2:=c3.cell 2;have a1:Hid (Blk w6 gl 141 (bU g9 h p.2)):=jz (by rw[<- e8.out];exact a3.blk);have l7:w6.cell? ⟨gl,7,none⟩=some (.int .u32 p.2.gen):=(a1.cell 7).trans rfl;have l5:w6.cell? ⟨gl,5,none⟩=some (.int .i64 p.2.side):=(a1.cell 5).trans rfl;have l8:w6.cell? ⟨gl,8,none⟩=some (.int .i64 p.2.cnt):=(a1.cell 8).trans rfl;have f5:=a1.frozen 5;have f7:=a1.frozen 7;have f8:=a1.frozen 8;simp only[stC,jf,jg,jh] at e0 e1 e2;have h6:=jZ;have h3:=e7.out;clear HC;cases hso:SS.1 with
   | none=>
    rw[hso] at e0 e1;have b7:=jz hso;clear hso;simp only[Option.isSome_none] at e0;have a2:=jz (d7.trans (i5 (k:=0) b7));go_wp2_with fail
    go_quiet (fail)
    go_wp2_with fail
    refine⟨⟨1,by omega,rfl,by rw[a2.out,e6.out],?_⟩,by simp[intOf]⟩;rw[a2.out];exact jz (a3.keep (dG (ji _ _) nq))
   | some gN=>
    rw[hso] at e0 e1;have b7:Hid (SS.1=some gN):=jz hso;clear hso;simp only[Option.isSome_some,Option.getD_some] at e0 e1;have a2:=jz (d7.trans (qW (k:=0) b7 (.inl HF)));go_wp2_with fail
    go_quiet (fail)
    go_wp2_with fail
    refine⟨⟨1,by omega,rfl,by rw[a2.out];rfl,?_⟩,by simp[intOf]⟩;rw[a2.out];have a4:Bw w6 (w6.drewN nq):=dG (ji _ _) nq;exact jz (a3.put a4 SS.2 _ g1 g3 (aE f1 a4) f2 (λj hj=>by rw[Below.heap_setCell _ ⟨gl,8,none⟩ _ j hj,Below.heap_setCell _ ⟨gl,7,none⟩ _ j hj,Below.heap_setCell _ ⟨gl,5,none⟩ _ j hj]) (by have:=FC (a3.blk.keep a4) 0 gN SS.2.length;exact this) (by simp) ⟨rfl,rfl,rfl⟩)
  ·obtain⟨p,hp⟩:=je (fAt d h L 1);obtain⟨SS,d4⟩:=je (eN d h h);have e7:Hid (SS.2.length<=h):=jz (by rw[d4];exact h2 _);have d7:Hid (fAt d h L 2=jY 1 SS p):=jz (by rw[d4,hp];exact h0 1);have d3:=jz (λW f6=>g2.out W h f6 (by omega));rw[<- d4] at d3;rw[<- hp] at HR ⊢;clear d4 hp;cases hp1:p.1 with
   | none=>
    have HF:Hid (p.1=none):=jz hp1;have e6:Hid (p.1.isSome=false):=jz (by rw[HF.out];rfl);clear hp1;simp only[Option.isSome_none];have h5:∀ w,(Instr.index 139 (.agg #[.int .i64 0,.int .i64 h,.int .i64 h,.int .i64 h]) (.int .i64 1)).run prog w = .ok (.agg #[.int .i64 h,.int .i64 h]) w:=λw=>by kernel_rfl
    go_upto_region 6 with fail
    obtain⟨w2,b2⟩:=je (wr.alloc (.cells #[.int .i64 h,.int .i64 h] 138));have c4:Blk w2 wr.heap.size 138 #[.int .i64 h,.int .i64 h]:=by rw[b2];exact Blk.new _ _ _
    have e3:Bw wr w2:=by rw[b2];exact aV _ _
    rw[<- b2];clear b2;obtain⟨g8,e4⟩:=je wr.heap.size;rw[<- e4] at c4 ⊢;have d5:Hid (Blk w2 g8 138 #[.int .i64 h,.int .i64 h]):=jz c4;have f3:=jz (HR.keep e3);clear c4 e3 e4;go_cut [9,10] from 19 to 27 (λx y wx=>∃ K D I,x = .pointer (some ⟨K,0,none⟩)/\y = .nilIface/\Hid (FX w wx m d gl h p u6 SS K (.slice D SS.2.length I)))
    case first=>
     obtain⟨Z,a7⟩:=je w2.drew;have O:=jz (f3.keep (ji _ _).drew);rw[<- a7] at O;have f0:Hid (Blk Z gl 141 (bU g9 h p.2)):=jz (by rw[<- e8.out];exact O.blk);have b9:Hid (Blk Z g8 138 #[.int .i64 h,.int .i64 h]):=jz (by rw[a7];exact d5.keep (ji _ _).drew);refine kZ (n:=12) (λW=>Blk W gl 141 (bU g9 h p.2)/\Blk W g8 138 #[.int .i64 h,.int .i64 h]) (by rw[<- a7];exact⟨f0,b9⟩) (h:=λhH=>?_);rw[<- a7] at hH ⊢;clear a7;refine qM 0 (.pointer (some ⟨gl,0,none⟩)) ?_;refine qT 1 (.pointer (some ⟨gl,0,none⟩)) ?_;refine qT 2 (.pointer (some ⟨gl,0,none⟩)) ?_;refine qC 3 (v:=.pointer (some ⟨g9,0,none⟩)) (λ_ hX=>(hX.1.cell 0).trans rfl) ?_;refine qL 4 (cs:=[.int .i64 h,.int .i64 h]) (λ_ hX=>hX.2.range) (rfl) ?_;refine kCA 5 9 (some 25) (some 9) (zs:=stZ) uO ((d3 Z O.dk).mono ?_) ⟨hH.1.alloc _,hH.2.alloc _⟩ ?_
     ·rintro e w6 ⟨b1,vE,rfl,d1,a5⟩;obtain⟨D,I,rfl,_⟩:=Sn.own d1;refine⟨_,rfl,⟨hH.1.keep b1,hH.2.keep b1⟩,λa8=>?_⟩;simp only[jq];refine qM 6 (.tuple #[.agg (stC SS (.slice D SS.2.length I)),.nilIface]) ?_;refine qT 7 (.agg (stC SS (.slice D SS.2.length I))) ?_;refine qT 8 (.nilIface) ?_;refine kA 9 (some 9) (zs:=stZ) uO ⟨a8.1.alloc _,a8.2.alloc _⟩ (h:=?_);simp only[jq];obtain⟨w5,b3⟩:=je (w6.alloc (.cells stZ 203));obtain⟨K,V⟩:=je w6.heap.size;have U:Blk w5 K 203 stZ:=by rw[b3,V];exact Blk.new _ _ _
      have a0:Bw w6 w5:=by rw[b3];exact aV _ _
      have d2:=aE d1 a0;have c6:Bw Z w5:=aB b1 a0;have c7:Z.heap.size<=K:=by rw[V];exact b1.size
      have c9:∀ b,(Value.slice D SS.2.length I).ownBlock=some b->b≠K:=λb e=>by have:=(d1.lt b e).2;omega
      have J:Blk w5 gl 141 (bU g9 h p.2)/\Blk w5 g8 138 #[.int .i64 h,.int .i64 h]:=⟨a8.1.keep a0,a8.2.keep a0⟩;rw[<- b3,<- V];clear b3 V;have R:=eT (new:=(stC SS (.slice D SS.2.length I)).toList) U (by rfl);have c5:Blk (w5.setCells K 0 (stC SS (.slice D SS.2.length I)).toList) gl 141 (bU g9 h p.2)/\Blk (w5.setCells K 0 (stC SS (.slice D SS.2.length I)).toList) g8 138 #[.int .i64 h,.int .i64 h]:=⟨(R.2.1.block _ J.1.lt (by have:=O.blk.lt;omega)).trans J.1,(R.2.1.block _ J.2.lt (by have:=b9.lt;omega)).trans J.2⟩;refine kR 10 none (off:=0) (n:=3) (cs:=(stC SS (.slice D SS.2.length I)).toList) (bX U (ja _)) rfl (lE _ _ _ _) c5 (h:=?_);simp only[jq];refine qT 11 (.nilIface) ?_;refine kE (h:=?_);go_wp2_with fail
      go_meet
      exact⟨K,D,I,rfl,rfl,jz (O.cut U R d2 c6 c7 c9 a5)⟩
     ·simp only[jq];obtain⟨w4,a6⟩:=je (Z.alloc (.cells stZ 203));obtain⟨K,V⟩:=je Z.heap.size;have f4:Blk w4 K 203 stZ:=by rw[a6,V];exact Blk.new _ _ _
      have a9:Bw Z w4:=by rw[a6];exact aV _ _
      have h7:w4.heap.size=Z.heap.size+1:=by rw[a6];simp
      rw[<- a6,<- V];clear a6;refine kF 5 (some 25) ((d3 w4 (O.dk.keep a9)).mono ?_);rintro e w5 ⟨b0,vE,rfl,d0,a5⟩;obtain⟨D,I,rfl,_⟩:=Sn.own d0;refine⟨_,rfl,⟨(hH.1.keep a9).keep b0,(hH.2.keep a9).keep b0⟩,λJ=>?_⟩;simp only[jq];have U:=f4.keep b0;have d2:=aT (base':=Z.heap.size) d0 (by omega);have c6:Bw Z w5:=aB a9 b0;have c7:Z.heap.size<=K:=by omega
      have c9:∀ b,(Value.slice D SS.2.length I).ownBlock=some b->b≠K:=λb e=>by have:=(d0.lt b e).1;omega
      refine qM 6 (.tuple #[.agg (stC SS (.slice D SS.2.length I)),.nilIface]) ?_;refine qT 7 (.agg (stC SS (.slice D SS.2.length I))) ?_;refine qT 8 (.nilIface) ?_;have R:=eT (new:=(stC SS (.slice D SS.2.length I)).toList) U (by rfl);have c5:Blk (w5.setCells K 0 (stC SS (.slice D SS.2.length I)).toList) gl 141 (bU g9 h p.2)/\Blk (w5.setCells K 0 (stC SS (.slice D SS.2.length I)).toList) g8 138 #[.int .i64 h,.int .i64 h]:=⟨(R.2.1.block _ J.1.lt (by have:=O.blk.lt;omega)).trans J.1,(R.2.1.block _ J.2.lt (by have:=b9.lt;omega)).trans J.2⟩;refine kR 10 none (off:=0) (n:=3) (cs:=(stC SS (.slice D SS.2.length I)).toList) (bX U (ja _)) rfl (lE _ _ _ _) c5 (h:=?_);simp only[jq];refine qT 11 (.nilIface) ?_;refine kE (h:=?_);go_wp2_with fail
      go_meet
      exact⟨K,D,I,rfl,rfl,jz (O.cut U R d2 c6 c7 c9 a5)⟩
    case rest=>
    obtain⟨K,D,I,rfl,rfl,HC⟩:=hcut;obtain⟨w6,e5⟩:=je wc;rw[<- e5] at HC ⊢;clear e5;have c3:Hid (Blk w6 K 203 (stC SS (.slice D SS.2.length I))):=jz HC.st;have f1:=jz HC.own;have f2:=jz HC.ok;have a3:=jz HC.fr;have h4:gl<w6.heap.size:=a3.blk.lt;have e0:=c3.cell 0;have e1:=c3.cell 1;have e2:=c3.cell 2;have a1:Hid (Blk w6 gl 141 (bU g9 h p.2)):=jz (by rw[<- e8.out];exact a3.blk);have l7:w6.cell? ⟨gl,7,none⟩=some (.int .u32 p.2.gen):=(a1.cell 7).trans rfl;have l5:w6.cell? ⟨gl,5,none⟩=some (.int .i64 p.2.side):=(a1.cell 5).trans rfl;have l8:w6.cell? ⟨gl,8,none⟩=some (.int .i64 p.2.cnt):=(a1.cell 8).trans rfl;have f5:=a1.frozen 5;have f7:=a1.frozen 7;have f8:=a1.frozen 8;simp only[stC,jf,jg,jh] at e0 e1 e2;have h6:=jZ;have h3:=e7.out;clear HC;cases hso:SS.1 with
    | none=>
     rw[hso] at e0 e1;have b7:=jz hso;clear hso;simp only[Option.isSome_none] at e0;have a2:=jz (d7.trans (i5 (k:=1) b7));go_wp2_with fail
     go_quiet (fail)
     go_wp2_with fail
     refine⟨⟨2,by omega,rfl,by rw[a2.out,e6.out],?_⟩,by simp[intOf]⟩;rw[a2.out];exact jz (a3.keep (dG (ji _ _) nq))
    | some gN=>
     rw[hso] at e0 e1;have b7:Hid (SS.1=some gN):=jz hso;clear hso;simp only[Option.isSome_some,Option.getD_some] at e0 e1;have a2:=jz (d7.trans (qW (k:=1) b7 (.inl HF)));go_wp2_with fail
     go_quiet (fail)
     go_wp2_with fail
     refine⟨⟨2,by omega,rfl,by rw[a2.out];rfl,?_⟩,by simp[intOf]⟩;rw[a2.out];have a4:Bw w6 (w6.drewN nq):=dG (ji _ _) nq;exact jz (a3.put a4 SS.2 _ g1 g3 (aE f1 a4) f2 (λj hj=>by rw[Below.heap_setCell _ ⟨gl,8,none⟩ _ j hj,Below.heap_setCell _ ⟨gl,7,none⟩ _ j hj,Below.heap_setCell _ ⟨gl,5,none⟩ _ j hj]) (by have:=FC (a3.blk.keep a4) 1 gN SS.2.length;exact this) (by simp) ⟨rfl,rfl,rfl⟩)
   | some es=>
    have HF:Hid (p.1=some es):=jz hp1;have e6:Hid (p.1.isSome=true):=jz (by rw[HF.out];rfl);clear hp1;simp only[Option.isSome_some];have h5:∀ w,(Instr.index 139 (.agg #[.int .i64 0,.int .i64 h,.int .i64 h,.int .i64 h]) (.int .i64 1)).run prog w = .ok (.agg #[.int .i64 h,.int .i64 h]) w:=λw=>by kernel_rfl
    go_upto_region 6 with fail
    obtain⟨w2,b2⟩:=je (wr.alloc (.cells #[.int .i64 h,.int .i64 h] 138));have c4:Blk w2 wr.heap.size 138 #[.int .i64 h,.int .i64 h]:=by rw[b2];exact Blk.new _ _ _
    have e3:Bw wr w2:=by rw[b2];exact aV _ _
    rw[<- b2];clear b2;obtain⟨g8,e4⟩:=je wr.heap.size;rw[<- e4] at c4 ⊢;have d5:Hid (Blk w2 g8 138 #[.int .i64 h,.int .i64 h]):=jz c4;have f3:=jz (HR.keep e3);clear c4 e3 e4;go_cut [9,10] from 19 to 27 (λx y wx=>∃ K D I,x = .pointer (some ⟨K,0,none⟩)/\y = .nilIface/\Hid (FX w wx m d gl h p u6 SS K (.slice D SS.2.length I)))
    case first=>
     obtain⟨Z,a7⟩:=je w2.drew;have O:=jz (f3.keep (ji _ _).drew);rw[<- a7] at O;have f0:Hid (Blk Z gl 141 (bU g9 h p.2)):=jz (by rw[<- e8.out];exact O.blk);have b9:Hid (Blk Z g8 138 #[.int .i64 h,.int .i64 h]):=jz (by rw[a7];exact d5.keep (ji _ _).drew);refine kZ (n:=12) (λW=>Blk W gl 141 (bU g9 h p.2)/\Blk W g8 138 #[.int .i64 h,.int .i64 h]) (by rw[<- a7];exact⟨f0,b9⟩) (h:=λhH=>?_);rw[<- a7] at hH ⊢;clear a7;refine qM 0 (.pointer (some ⟨gl,0,none⟩)) ?_;refine qT 1 (.pointer (some ⟨gl,0,none⟩)) ?_;refine qT 2 (.pointer (some ⟨gl,0,none⟩)) ?_;refine qC 3 (v:=.pointer (some ⟨g9,0,none⟩)) (λ_ hX=>(hX.1.cell 0).trans rfl) ?_;refine qL 4 (cs:=[.int .i64 h,.int .i64 h]) (λ_ hX=>hX.2.range) (rfl) ?_;refine kCA 5 9 (some 25) (some 9) (zs:=stZ) uO ((d3 Z O.dk).mono ?_) ⟨hH.1.alloc _,hH.2.alloc _⟩ ?_
     ·rintro e w6 ⟨b1,vE,rfl,d1,a5⟩;obtain⟨D,I,rfl,_⟩:=Sn.own d1;refine⟨_,rfl,⟨hH.1.keep b1,hH.2.keep b1⟩,λa8=>?_⟩;simp only[jq];refine qM 6 (.tuple #[.agg (stC SS (.slice D SS.2.length I)),.nilIface]) ?_;refine qT 7 (.agg (stC SS (.slice D SS.2.length I))) ?_;refine qT 8 (.nilIface) ?_;refine kA 9 (some 9) (zs:=stZ) uO ⟨a8.1.alloc _,a8.2.alloc _⟩ (h:=?_);simp only[jq];obtain⟨w5,b3⟩:=je (w6.alloc (.cells stZ 203));obtain⟨K,V⟩:=je w6.heap.size;have U:Blk w5 K 203 stZ:=by rw[b3,V];exact Blk.new _ _ _
      have a0:Bw w6 w5:=by rw[b3];exact aV _ _
      have d2:=aE d1 a0;have c6:Bw Z w5:=aB b1 a0;have c7:Z.heap.size<=K:=by rw[V];exact b1.size
      have c9:∀ b,(Value.slice D SS.2.length I).ownBlock=some b->b≠K:=λb e=>by have:=(d1.lt b e).2;omega
      have J:Blk w5 gl 141 (bU g9 h p.2)/\Blk w5 g8 138 #[.int .i64 h,.int .i64 h]:=⟨a8.1.keep a0,a8.2.keep a0⟩;rw[<- b3,<- V];clear b3 V;have R:=eT (new:=(stC SS (.slice D SS.2.length I)).toList) U (by rfl);have c5:Blk (w5.setCells K 0 (stC SS (.slice D SS.2.length I)).toList) gl 141 (bU g9 h p.2)/\Blk (w5.setCells K 0 (stC SS (.slice D SS.2.length I)).toList) g8 138 #[.int .i64 h,.int .i64 h]:=⟨(R.2.1.block _ J.1.lt (by have:=O.blk.lt;omega)).trans J.1,(R.2.1.block _ J.2.lt (by have:=b9.lt;omega)).trans J.2⟩;refine kR 10 none (off:=0) (n:=3) (cs:=(stC SS (.slice D SS.2.length I)).toList) (bX U (ja _)) rfl (lE _ _ _ _) c5 (h:=?_);simp only[jq];refine qT 11 (.nilIface) ?_;refine kE (h:=?_);go_wp2_with fail
      go_meet
      exact⟨K,D,I,rfl,rfl,jz (O.cut U R d2 c6 c7 c9 a5)⟩
     ·simp only[jq];obtain⟨w4,a6⟩:=je (Z.alloc (.cells stZ 203));obtain⟨K,V⟩:=je Z.heap.size;have f4:Blk w4 K 203 stZ:=by rw[a6,V];exact Blk.new _ _ _
      have a9:Bw Z w4:=by rw[a6];exact aV _ _
      have h7:w4.heap.size=Z.heap.size+1:=by rw[a6];simp
      rw[<- a6,<- V];clear a6;refine kF 5 (some 25) ((d3 w4 (O.dk.keep a9)).mono ?_);rintro e w5 ⟨b0,vE,rfl,d0,a5⟩;obtain⟨D,I,rfl,_⟩:=Sn.own d0;refine⟨_,rfl,⟨(hH.1.keep a9).keep b0,(hH.2.keep a9).keep b0⟩,λJ=>?_⟩;simp only[jq];have U:=f4.keep b0;have d2:=aT (base':=Z.heap.size) d0 (by omega);have c6:Bw Z w5:=aB a9 b0;have c7:Z.heap.size<=K:=by omega
      have c9:∀ b,(Value.slice D SS.2.length I).ownBlock=some b->b≠K:=λb e=>by have:=(d0.lt b e).1;omega
      refine qM 6 (.tuple #[.agg (stC SS (.slice D SS.2.length I)),.nilIface]) ?_;refine qT 7 (.agg (stC SS (.slice D SS.2.length I))) ?_;refine qT 8 (.nilIface) ?_;have R:=eT (new:=(stC SS (.slice D SS.2.length I)).toList) U (by rfl);have c5:Blk (w5.setCells K 0 (stC SS (.slice D SS.2.length I)).toList) gl 141 (bU g9 h p.2)/\Blk (w5.setCells K 0 (stC SS (.slice D SS.2.length I)).toList) g8 138 #[.int .i64 h,.int .i64 h]:=⟨(R.2.1.block _ J.1.lt (by have:=O.blk.lt;omega)).trans J.1,(R.2.1.block _ J.2.lt (by have:=b9.lt;omega)).trans J.2⟩;refine kR 10 none (off:=0) (n:=3) (cs:=(stC SS (.slice D SS.2.length I)).toList) (bX U (ja _)) rfl (lE _ _ _ _) c5 (h:=?_);simp only[jq];refine qT 11 (.nilIface) ?_;refine kE (h:=?_);go_wp2_with fail
      go_meet
      exact⟨K,D,I,rfl,rfl,jz (O.cut U R d2 c6 c7 c9 a5)⟩
    case rest=>
    obtain⟨K,D,I,rfl,rfl,HC⟩:=hcut;obtain⟨w6,e5⟩:=je wc;rw[<- e5] at HC ⊢;clear e5;have c3:Hid (Blk w6 K 203 (stC SS (.slice D SS.2.length I))):=jz HC.st;have f1:=jz HC.own;have f2:=jz HC.ok;have a3:=jz HC.fr;have h4:gl<w6.heap.size:=a3.blk.lt;have e0:=c3.cell 0;have e1:=c3.cell 1;have e2:=c3.cell 2;have a1:Hid (Blk w6 gl 141 (bU g9 h p.2)):=jz (by rw[<- e8.out];exact a3.blk);have l7:w6.cell? ⟨gl,7,none⟩=some (.int .u32 p.2.gen):=(a1.cell 7).trans rfl;have l5:w6.cell? ⟨gl,5,none⟩=some (.int .i64 p.2.side):=(a1.cell 5).trans rfl;have l8:w6.cell? ⟨gl,8,none⟩=some (.int .i64 p.2.cnt):=(a1.cell 8).trans rfl;have f5:=a1.frozen 5;have f7:=a1.frozen 7;have f8:=a1.frozen 8;simp only[stC,jf,jg,jh] at e0 e1 e2;have h6:=jZ;have h3:=e7.out;clear HC;cases hso:SS.1 with
    | none=>
     rw[hso] at e0 e1;have b7:=jz hso;clear hso;simp only[Option.isSome_none] at e0;have a2:=jz (d7.trans (i5 (k:=1) b7));go_wp2_with fail
     go_quiet (fail)
     go_wp2_with fail
     refine⟨⟨2,by omega,rfl,by rw[a2.out,e6.out],?_⟩,by simp[intOf]⟩;rw[a2.out];exact jz (a3.keep (dG (ji _ _) nq))
    | some gN=>
     rw[hso] at e0 e1;have b7:Hid (SS.1=some gN):=jz hso;clear hso;simp only[Option.isSome_some,Option.getD_some] at e0 e1;rcases jo p.2.gen gN with k2|k4
     ·have k1:(p.2.gen:Int)<gN:=by omega
      have a2:=jz (d7.trans (qW (k:=1) b7 (.inr k2)));go_wp2_with fail
      go_quiet (fail)
      go_wp2_with fail
      refine⟨⟨2,by omega,rfl,by rw[a2.out];rfl,?_⟩,by simp[intOf]⟩;rw[a2.out];have a4:Bw w6 (w6.drewN nq):=dG (ji _ _) nq;exact jz (a3.put a4 SS.2 _ g1 g3 (aE f1 a4) f2 (λj hj=>by rw[Below.heap_setCell _ ⟨gl,8,none⟩ _ j hj,Below.heap_setCell _ ⟨gl,7,none⟩ _ j hj,Below.heap_setCell _ ⟨gl,5,none⟩ _ j hj]) (by have:=FC (a3.blk.keep a4) 1 gN SS.2.length;exact this) (by simp) ⟨rfl,rfl,rfl⟩)
     ·have k1:(gN:Int)<=p.2.gen:=by omega
      have a2:=jz (d7.trans (KC (k:=1) b7 HF k4));go_wp2_with fail
      go_quiet (fail)
      go_wp2_with fail
      refine⟨⟨2,by omega,rfl,by rw[a2.out,e6.out],?_⟩,by simp[intOf]⟩;rw[a2.out];exact jz (a3.keep (dG (ji _ _) nq))
  ·go_wp2_with fail
   refine bodyPost_ret (results_tmp3 rfl _ _ _) rfl ?_;exact⟨_,rfl,HR⟩
def sM(d:DiskD)(h:Nat)(L:LogD)(q:b8):Ans:=if L.brk then some (11,none) else jD d (bD h L.side) h ((L.cnt+1:Nat):Int) L.gen q
def oL(d:DiskD)(h:Nat)(L:LogD)(q:b8):DiskD:=if L.brk then d else lC d (bD h L.side) h ((L.cnt+1:Nat):Int) L.gen q
def WD(L:LogD):Ans->LogD
 | none=>{ L with cnt:=L.cnt+1 }
 | some x=>nZ L x.1
def vH(d:DiskD)(h:Nat)(L:LogD)(q:b8):LogD:=if L.brk then L else WD L (jD d (bD h L.side) h ((L.cnt+1:Nat):Int) L.gen q)
theorem yD(d:DiskD)(a:Int)(s:Wl):(iT d a s).sec.length=d.sec.length:=by
 unfold iT;split <;> rfl
theorem lW(d:DiskD)(a:Int)(s:Wl):(bH d a s).sec.length=d.sec.length:=by
 unfold bH;split
 ·rfl
 ·split
  ·exact(lM _ _ _).trans (yD (aW d) a s)
  ·split
   ·rfl
   ·exact yD (aW d) a s
theorem eU(d:DiskD):(cJ d).sec.length=d.sec.length:=by
 unfold cJ;split
 ·rfl
 ·split
  ·exact lM _ _ _
  ·split
   ·rfl
   ·exact nH _ _ _
theorem lX(d:DiskD)(a:Int)(s:Wl):(wsD d a s).sec.length=d.sec.length:=by
 unfold wsD;split
 ·exact lW _ _ _
 ·exact(eU _).trans (lW _ _ _)
theorem yE:∀(l:List Wl) (d:DiskD) (a:Int),(iG d a l).2.sec.length=d.sec.length
 | [],d,_=>eU d
 | s :: l,d,a=>by
  unfold iG;split
  ·exact lW _ _ _
  ·exact(yE l _ _).trans (lW _ _ _)
theorem qY(d:DiskD)(f z:Int)(g:Nat)(l:List b8):(dE d f z g l).2.sec.length=d.sec.length:=by
 unfold dE;split
 ·rfl
 ·split
  ·exact yE _ _ _
  ·rfl
theorem FD{h s:Nat}(D:h<=4096):0<=(bD h s:Int)/\(bD h s:Int)<=100000:=by
 unfold bD;split <;> omega
theorem LogOk.h_le{w:Wd}{m:DiskM}{d:DiskD}{gl h:Nat}{L:LogD}(k:LK w m d gl h L):h<=4096:=by
 have:=k.ok.half;have:=k.dk.ok.few;omega
theorem CW(d:DiskD)(f z p:Int)(g:Nat)(q:b8):(lC d f z p g q).sec.length=d.sec.length:=by
 unfold lC;split
 ·rfl
 ·split
  ·rfl
  ·split
   ·exact lX _ _ _
   ·rfl
theorem RT{d:DiskD}{f z p:Int}{g:Nat}{q:b8}(h:jD d f z p g q=none):1<=p/\p<=room z:=by
 unfold jD at h;split at h
 ·cases h
 ·split at h
  ·cases h
  ·omega
theorem vI(q:b8)(w:Wd)(m:DiskM)(d:DiskD)(gl h:Nat)(L:LogD)(k:LK w m d gl h L)(hq:EntOk q)(hr:d.room+3<=100000):
  Wc 86 #[.pointer (some ⟨gl,0,none⟩),.agg (aO q).toArray] w λe w'=>e = .returned (bV (sM d h L q))/\∃ m',LK w' m' (oL d h L q) gl h (vH d h L q)/\LT gl w m w' m':=by
 have hh:=LogOk.h_le k;have HK:=jz k;have HQ:=jz hq;have e4:=bC q hq;obtain⟨w1,D⟩:=je (w.alloc (.cells (aO q).toArray 26));have c4:Hid (Blk w1 w.heap.size 26 (aO q).toArray):=jz (by rw[D];exact Blk.new _ _ _);have a5:Hid (Bw w w1):=jz (by rw[D];exact aV _ _);have O:=jz (HK.keep a5);obtain⟨c0,c5,c6,c7,c8,c9⟩:=O.cells;clear k hq;cases hb:L.brk with
 | true=>
  have Z:Hid (sM d h L q=some (11,none)/\oL d h L q=d/\vH d h L q=L):=jz (by unfold sM oL vH;rw[hb];exact⟨rfl,rfl,rfl⟩);rw[hb] at c9;clear hb;go_enter func86,ntmps86
  go_upto_region 1 with fail
  rw[<- D];clear D;go_wp2_with fail
  go_ret;exact⟨by rw[Z.out.1];rfl,m,by rw[Z.out.2.1,Z.out.2.2];exact O,LT.of_below a5⟩
 | false=>
  obtain⟨pa,a2⟩:=je (jD d (bD h L.side) h ((L.cnt+1:Nat):Int) L.gen q);obtain⟨pd,a3⟩:=je (lC d (bD h L.side) h ((L.cnt+1:Nat):Int) L.gen q);have Z:Hid (sM d h L q=pa/\oL d h L q=pd/\vH d h L q=WD L pa):=jz (by unfold sM oL vH;rw[hb,a2,a3];exact⟨rfl,rfl,rfl⟩);rw[hb] at c9;have e5:=FD (s:=L.side) hh;have f0:(L.cnt:Int)<=10000:=by have:=HK.ok.cnt;omega
  have HP:=jz (λW M (kk:LK W M d gl h L)=>ML (bD h L.side) h ((L.cnt+1:Nat):Int) L.gen q W M d kk.dk e5 ⟨⟨by omega,by omega⟩,by omega⟩ ⟨by omega,by omega⟩ HK.ok.gen HQ hr);rw[<- a2,<- a3] at HP;have d5:Hid (pd.sec.length=d.sec.length):=jz (by rw[a3];exact CW _ _ _ _ _ _);have HLE:Hid (pa=none->L.cnt+1<=10000):=jz (λe=>by
   rw[a2] at e
   have:=(RT e).2
   unfold room at this
   split at this <;> omega)
  clear hb a2 a3;obtain⟨g9,a0⟩:=je m.g;rw[<- a0] at c0;have d1:Hid (m.g=g9):=jz a0.symm;have b3:L.side<2:=HK.ok.side;have a9:Hid (∀ W,Blk W gl 141 (bU g9 h L)->W.rangeAt gl (1+L.side*2) [.int .i64 (bD h L.side),.int .i64 h]):=jz (λW hk=>pH hk L.side b3);have c2:Hid (Blk w1 gl 141 (bU g9 h L)):=jz (by rw[a0];exact O.blk);obtain⟨sd,U⟩:=je L.side;obtain⟨sf,a7⟩:=je (bD h L.side);obtain⟨ct,a6⟩:=je L.cnt;have HC:Hid (∀ W,Blk W gl 141 (bU g9 h L)->W.cell? ⟨gl,0,none⟩=some (.pointer (some ⟨g9,0,none⟩))/\W.cell? ⟨gl,5,none⟩=some (.int .i64 sd)/\W.cell? ⟨gl,7,none⟩=some (.int .u32 L.gen)/\W.cell? ⟨gl,8,none⟩=some (.int .i64 ct)):=jz (λW hk=>by rw[U,a6];exact⟨(hk.cell 0).trans rfl,(hk.cell 5).trans rfl,(hk.cell 7).trans rfl,(hk.cell 8).trans rfl⟩);rw[<- a7,<- U] at a9;have e1:Hid (bD h L.side=sf):=jz a7.symm;have c3:Hid (L.cnt=ct):=jz a6.symm;have e6:(ct:Int)<=10000:=by omega
  have e7:(sd:Int)<2:=by omega
  have e8:(0:Int)<=sd:=by omega
  have e0:Hid (((ct+1:Nat):Int)=(ct:Int)+1):=jz (by omega);clear U a7 a0 c5 c6 c7 c8 b3 a6;go_enter func86,ntmps86
  go_upto_region 1 with fail
  rw[<- D];clear D;go_upto_region 5 with fail
  clear c0 c9;obtain⟨gb,a1⟩:=je w.heap.size;have d0:Hid (Blk w1 gb 26 (aO q).toArray):=jz (by rw[a1];exact c4);have d2:Hid (gb ∉ aZ m):=jz (by rw[a1];exact HK.dk.notFoot (ja _));rw[<- a1];clear a1;obtain⟨wS,a4⟩:=je w1.drew;have J:Hid (Bw w1 wS):=jz (by rw[a4];exact(ji _ _).drew);have d4:=jz (O.keep J);have I:Hid (Blk wS gl 141 (bU g9 h L)):=jz (c2.keep J);have K:Hid (Blk wS gb 26 (aO q).toArray):=jz (d0.keep J);have b9:=jz HK.ap;have d7:Hid (gb ∉ aZ m):=jz d2.out;have a8:=jz (HP wS m d4);rw[d1.out,e1.out,c3.out,e0.out] at a8;refine kZ (n:=25) (λW=>(Blk W gl 141 (bU g9 h L)/\Blk W gb 26 (aO q).toArray)) (by rw[<- a4];exact⟨I,K⟩) (h:=λhH=>?_);rw[<- a4] at hH ⊢;clear a4;refine qM 0 (.pointer (some ⟨gl,0,none⟩)) ?_;refine qT 1 (.pointer (some ⟨gl,0,none⟩)) ?_;refine qT 2 (.pointer (some ⟨gl,0,none⟩)) ?_;refine qC 3 (v:=.pointer (some ⟨g9,0,none⟩)) (λ_ R=>(HC _ R.1).1) ?_;refine qM 4 (.pointer (some ⟨gl,0,none⟩)) ?_;refine qM 5 (.pointer (some ⟨gl,0,none⟩)) ?_;refine qT 6 (.pointer (some ⟨gl,0,none⟩)) ?_;refine qT 7 (.pointer (some ⟨gl,5,none⟩)) ?_;refine qC 8 (v:=.int .i64 sd) (λ_ R=>(HC _ R.1).2.1) ?_;refine qT 9 (.pointer (some ⟨gl,0,none⟩)) ?_;refine qT 10 (.pointer (some ⟨gl,1,none⟩)) ?_;refine qT 11 (.pointer (some ⟨gl,1+sd*2,none⟩)) ?_;refine qL 12 (cs:=[.int .i64 sf,.int .i64 h]) (λ_ R=>a9.out _ R.1) (rfl) ?_;refine qM 13 (.pointer (some ⟨gl,0,none⟩)) ?_;refine qT 14 (.pointer (some ⟨gl,0,none⟩)) ?_;refine qT 15 (.pointer (some ⟨gl,8,none⟩)) ?_;refine qC 16 (v:=.int .i64 ct) (λ_ R=>(HC _ R.1).2.2.2) ?_;refine qM 18 (.pointer (some ⟨gl,0,none⟩)) ?_;refine qT 19 (.pointer (some ⟨gl,0,none⟩)) ?_;refine qT 20 (.pointer (some ⟨gl,7,none⟩)) ?_;refine qC 21 (v:=.int .u32 L.gen) (λ_ R=>(HC _ R.1).2.2.1) ?_;refine qL 22 (cs:=aO q) (λ_ R=>R.2.range) (e4) ?_;refine qT 17 (.int .i64 (ct+1)) ?_ (hy:=λW hW=>by unfold execOp;go_simp;exact IntWalk.i64_in _ (by omega));refine kF 23 (some 37) (a8.mono ?_);rintro e w5 ⟨rfl,m5,b1,V⟩;refine⟨_,rfl,⟨(V.off I.lt b9.out.1).trans I,(V.off K.lt d7).trans K⟩,λhH=>?_⟩;simp only[jq];refine qT 24 (bV pa) ?_;refine kE (h:=?_);have HKX:Hid (LK w5 m5 pd gl h L):=jz ((O.keep J).disk b1 V d5);have b0:Hid (LT gl w m w5 m5):=jz ((LT.of_below (aB a5 J)).trans (LT.of_dt V));clear b1 V;cases pa with
  | some x=>
   obtain⟨t,u,hv⟩:=cH x;have HN:=jz (vG (some x) w5 m5 pd gl h L HKX);have e3:=jz hv;rw[hv] at HN ⊢;have f1:=dR t u;clear hv;go_wp2_with fail
   refine HN.mono ?_;rintro e w6 ⟨rfl,b2,b7⟩;have d3:=jz b2;have e2:=jz (b0.trans b7);clear b2 b7;go_wp2_with fail
   go_ret;exact⟨by rw[Z.out.1,e3.out];rfl,m5,by rw[Z.out.2.1,Z.out.2.2];exact d3,e2⟩
  | none=>
   obtain⟨c0,c5,c6,c7,c8,c9⟩:=HKX.cells;have f8:=HKX.blk.frozen 8;have hv:bV none = .nilIface:=rfl;have f2:∀ w,(binOp .neq 46 .nilIface .nilIface).run prog w = .ok (.bool false) w:=λw=>by kernel_rfl
   rw[hv];clear hv;go_wp2_with fail
   go_ret;refine⟨by rw[Z.out.1];rfl,m5,?_,b0.set 8 _⟩;rw[Z.out.2.1,Z.out.2.2];exact HKX.set 8 _ (by rfl) ⟨HKX.ok.side,HKX.ok.last,HKX.ok.gen,HLE (by simp),HKX.ok.half⟩
theorem N3(w:Wd)(gl g h:Nat)(L:LogD)(k:UJ w gl g h L)(hs:L.side<2)(hh:h<=4096):Wc 138 #[.pointer (some ⟨gl,0,none⟩)] w (Rt w (.int .i64 (h-1:Nat))):=by
 have HB:Hid (Blk w gl 141 (bU g h L)):=jz k;have K:Hid (∀ W,Blk W gl 141 (bU g h L)->W.rangeAt gl (1+L.side*2) [.int .i64 (bD h L.side),.int .i64 h]):=jz (λW hk=>pH hk L.side hs);obtain⟨U,D⟩:=je L.side;obtain⟨sf,R⟩:=je (bD h L.side);have HC:Hid (∀ W,Blk W gl 141 (bU g h L)->W.cell? ⟨gl,5,none⟩=some (.int .i64 U)):=jz (λW hk=>by rw[D];exact(hk.cell 5).trans rfl);rw[<- R,<- D] at K;have a0:(U:Int)<2:=by omega
 have a1:(0:Int)<=U:=by omega
 have Z:Hid (room (h:Int)=((h-1:Nat):Int)):=jz (by unfold room;split <;> omega);have HP:=jz (λW=>qB sf h W ⟨by omega,by omega⟩);rw[Z.out] at HP;clear D R hs k;go_enter func138,ntmps138
 go_upto_region 3 with fail
 obtain⟨wS,I⟩:=je w.drew;have J:Hid (Bw w wS):=jz (by rw[I];exact(ji _ _).drew);refine kZ (n:=11) (λW=>Blk W gl 141 (bU g h L)) (by rw[<- I];exact HB.keep J) (h:=λhH=>?_);rw[<- I] at hH ⊢;clear I;refine qM 0 (.pointer (some ⟨gl,0,none⟩)) ?_;refine qM 1 (.pointer (some ⟨gl,0,none⟩)) ?_;refine qT 2 (.pointer (some ⟨gl,0,none⟩)) ?_;refine qT 3 (.pointer (some ⟨gl,5,none⟩)) ?_;refine qC 4 (v:=.int .i64 U) (λ_ hX=>HC.out _ hX) ?_;refine qT 5 (.pointer (some ⟨gl,0,none⟩)) ?_;refine qT 6 (.pointer (some ⟨gl,1,none⟩)) ?_;refine qT 7 (.pointer (some ⟨gl,1+U*2,none⟩)) ?_;refine qL 8 (cs:=[.int .i64 sf,.int .i64 h]) (λ_ hX=>K.out _ hX) (rfl) ?_;refine kF 9 (some 14) ((HP wS).mono ?_);rintro e w5 ⟨rfl,O⟩;have V:=jz O;refine⟨_,rfl,hH.keep O,λhH=>?_⟩;simp only[jq];refine kT 10 (some 2) (.int .i64 (h-1:Nat)) (h:=?_);simp only[jq];refine kE (h:=?_);go_wp2_with fail
 go_ret;exact⟨by kernel_rfl,aB J V⟩
def jF(s:Wl):Nat:=beN ((s.drop 60).take 4)
def cN(d:DiskD):Nat->Nat
 | 0=>0
 | k+1=>max (cN d k) (jF (rdS d k))
theorem tC{s:Wl}(h:Sec s):jF s<4294967296:=by
 have:=mI ((s.drop 60).take 4) (λc D=>h.2 c (List.mem_of_mem_drop (j7 D)));rw[jv,List.length_drop,h.1] at this;exact this
theorem vJ{d:DiskD}(h:DOk d):∀ k,cN d k<4294967296
 | 0=>by unfold cN;omega
 | k+1=>by
  have h1:=vJ h k;have D:=tC (s9 h k);unfold cN;omega
structure LJ(d:DiskD)(g n:Nat)(w:Wd)(a':Act)(w':Wd):Prop where
 ex:∃(k x:Nat) (u6 u7 u8 u9 u10 u11 u12 u13 u14 u15 u16 u17 u18 u19 u20 u21 u22 u23 u24 u25 u26 u27 u28 u29 u30:Value),a'={ tmps:=#[.pointer (some ⟨g,0,none⟩),undef,.int .u32 0,.nilIface,.int .u32 (x:Int),.int .i64 (k:Int),u6,u7,u8,u9,u10,u11,u12,u13,u14,u15,u16,u17,u18,u19,u20,u21,u22,u23,u24,u25,u26,u27,u28,u29,u30],defers:=[] }/\k<=n/\Hid ((x:Int)=(cN d k:Nat))/\Hid (Bw w w')
theorem sN(w:Wd)(m:DiskM)(d:DiskD)(h:DK w m d)(hd:d.down=false):
  Wc 68 #[.pointer (some ⟨m.g,0,none⟩)] w (Rt w (.tuple #[.int .u32 (cN d d.sec.length),.nilIface])):=by
 have HK:=jz h;have hn:(d.sec.length:Int)<=4096:=by have:=h.ok.few;omega
 have a8:=jz (λW (hb:Bw w W)=>yA W m d (HK.keep hb));have b2:=jz (λW (hb:Bw w W) (a:Int) (ha:aI a)=>xH a W m d (HK.keep hb) ha);have HE:Hid (∀ k:Nat,k<d.sec.length->rdE d k = .nilIface):=jz (λk hk=>by unfold rdE iR;rw[hd];simp;omega);obtain⟨g,hg⟩:=je m.g;rw[<- hg] at a8 b2 ⊢;obtain⟨n,c7⟩:=je d.sec.length;rw[<- c7] at a8 HE hn ⊢;have a9:Hid (∀ k:Nat,Sec (rdS d k)):=jz (λk=>s9 HK.ok k);have d0:Hid (∀ k,cN d k<4294967296):=jz (vJ HK.ok);have c9:z64.size=64:=cT;clear h hd hg c7;go_enter func68,ntmps68
 go_wp2_with fail
 refine wp_scope_jumps 0 (LJ d g n w) (λa' _=>n-(intOf (a'.tmps.getD 5 undef)).toNat) rfl ?_ ?_
 ·have HB:Hid (Bw w w):=jz (ji _ _);have HX:Hid ((0:Int)=(cN d 0:Nat)):=jz rfl;go_wp2_with fail
  go_step3
  go_wp2_with fail
  refine(a8 w HB).mono ?_;rintro e w2 ⟨rfl,a7⟩;rw[a7];clear a7 w2;rcases jo 0 n with c3|d2
  ·have b9:((0:Int):Int)<n:=by omega
   have HR:=b2.out w HB (0:Int) ⟨by omega,by omega⟩;have K:=a9.out 0;have V:=HE.out 0 c3;obtain⟨s,hs⟩:=je (rdS d (0:Int));have HS:Hid (s=rdS d (0:Nat)):=jz hs;have D:Sec s:=by rw[HS.out];exact K
   have J:rdE d (0:Int) = .nilIface:=V;rw[J,<- hs] at HR;have I:Hid (64=(u8s s).toArray.size/\(u8s s).toArray.all (·.oneCell')=true/\(prog.info? 195).map (·.size)=some (u8s s).toArray.size):=jz ⟨by simp[aH D],dL s,by simp only[js,aH D];kernel_rfl⟩;have a0:=jz D;have Z:=jz HR;obtain⟨T,hT⟩:=je (jF s);have b7:Hid (T<4294967296):=jz (by rw[hT];exact tC D);have a1:=jz (λW=>yC s W a0.out.1 a0.out.2);have HT:Hid (T=jF s):=jz hT;have a3:beN ((s.drop 60).take 4)=T:=hT.symm;rw[a3] at a1;clear hs D K V J HR hT a3;go_upto_region 5 with (first
    | (go_at_call 105;refine Z.mono ?_;rintro e w3 ⟨rfl,a4⟩)
    | (refine al 195 z64 rfl rfl dH ?_)
    | (refine bQ 195 (.tmp 6) (.tmp 17) rfl rfl rfl rfl I.out.2.2 (by rw[c9];exact I.out.1) I.out.2.1 ?_;intro w4 a2 a5 c4))
   obtain⟨gs,R⟩:=je w3.heap.size;have b1:Hid (Blk w4 gs 195 (u8s s).toArray):=jz (by rw[R];exact a2);have b0:Hid (Bw w w4):=jz (aB (aB HB a4) a5);rw[<- R];have b3:Hid (w4.rangeAt gs 0 (u8s s)):=jz (by have h:=b1.range;rwa [jt] at h);have c5:IntKind.i64.wrap ((0:Int)+1)=((0+1:Nat):Int):=by rw[IntWalk.i64_in _ (by omega)];omega
   clear a2 a5 c4 a4 R Z;have d4:(0:Int)+1<=9223372036854775807:=by omega
   have d1:(T:Int)<=4294967295:=by have:=b7.out;omega
   go_upto_region 9 with (first
    | (refine ld 195 _ rfl rfl rfl b3 underlying195 rfl (by simpa using I.out.2.2) ?_)
    | (go_at_call 106;refine(a1 w4).mono ?_;rintro e w5 ⟨rfl,a6⟩))
   have U:Hid (Bw w w5):=jz (aB b0 a6);clear a6;rcases Int.lt_or_le (0:Int) (T:Int) with d3|c6
   ·have O:Hid ((T:Int)=(cN d (0+1):Nat)):=jz (by
     have h2:jF (rdS d ((0:Nat):Int))=T:=by rw[HT.out,HS.out]
     have h1:cN d (0+1)=max (cN d 0) T:=by rw[<- h2];rfl
     rw[h1]
     have:=HX.out
     omega)
    go_wp2_with fail
    go_step3
    refine⟨rfl,⟨0+1,(cN d (0+1)),_,_,_,_,_,_,_,_,_,_,_,_,_,_,_,_,_,_,_,_,_,_,_,_,_,by rw[<- O.out];rfl,by omega,jz rfl,U⟩⟩
   ·have O:Hid ((0:Int)=(cN d (0+1):Nat)):=jz (by
     have h2:jF (rdS d ((0:Nat):Int))=T:=by rw[HT.out,HS.out]
     have h1:cN d (0+1)=max (cN d 0) T:=by rw[<- h2];rfl
     rw[h1]
     have:=HX.out
     omega)
    go_wp2_with fail
    go_step3
    refine⟨rfl,⟨0+1,(cN d (0+1)),_,_,_,_,_,_,_,_,_,_,_,_,_,_,_,_,_,_,_,_,_,_,_,_,_,by rw[<- O.out];rfl,by omega,jz rfl,U⟩⟩
  ·have b9:(n:Int)<=(0:Int):=by omega
   go_wp2_with fail
   simp only[Exit.jump];refine bodyPost_ret (results_tmp2 rfl _ _ _) rfl ?_;have c2:n=0:=by omega
   exact⟨by rw[c2,<- HX.out];rfl,HB⟩
 ·rintro a' wr ⟨k,x,u6,u7,u8,u9,u10,u11,u12,u13,u14,u15,u16,u17,u18,u19,u20,u21,u22,u23,u24,u25,u26,u27,u28,u29,u30,rfl,hk,HX,HB⟩;have e0:(x:Int)<=4294967295:=by have:=HX.out;have:=d0.out k;omega
  have d5:(0:Int)<=k:=by omega
  have d7:(k:Int)<=n:=by omega
  go_wp2_with fail
  refine(a8 wr HB).mono ?_;rintro e w2 ⟨rfl,a7⟩;rw[a7];clear a7 w2;rcases jo k n with c3|d2
  ·have b9:((k:Int):Int)<n:=by omega
   have HR:=b2.out wr HB (k:Int) ⟨by omega,by omega⟩;have K:=a9.out k;have V:=HE.out k c3;obtain⟨s,hs⟩:=je (rdS d (k:Int));have HS:Hid (s=rdS d (k:Nat)):=jz hs;have D:Sec s:=by rw[HS.out];exact K
   have J:rdE d (k:Int) = .nilIface:=V;rw[J,<- hs] at HR;have I:Hid (64=(u8s s).toArray.size/\(u8s s).toArray.all (·.oneCell')=true/\(prog.info? 195).map (·.size)=some (u8s s).toArray.size):=jz ⟨by simp[aH D],dL s,by simp only[js,aH D];kernel_rfl⟩;have a0:=jz D;have Z:=jz HR;obtain⟨T,hT⟩:=je (jF s);have b7:Hid (T<4294967296):=jz (by rw[hT];exact tC D);have a1:=jz (λW=>yC s W a0.out.1 a0.out.2);have HT:Hid (T=jF s):=jz hT;have a3:beN ((s.drop 60).take 4)=T:=hT.symm;rw[a3] at a1;clear hs D K V J HR hT a3;go_upto_region 5 with (first
    | (go_at_call 105;refine Z.mono ?_;rintro e w3 ⟨rfl,a4⟩)
    | (refine al 195 z64 rfl rfl dH ?_)
    | (refine bQ 195 (.tmp 6) (.tmp 17) rfl rfl rfl rfl I.out.2.2 (by rw[c9];exact I.out.1) I.out.2.1 ?_;intro w4 a2 a5 c4))
   obtain⟨gs,R⟩:=je w3.heap.size;have b1:Hid (Blk w4 gs 195 (u8s s).toArray):=jz (by rw[R];exact a2);have b0:Hid (Bw w w4):=jz (aB (aB HB a4) a5);rw[<- R];have b3:Hid (w4.rangeAt gs 0 (u8s s)):=jz (by have h:=b1.range;rwa [jt] at h);have c5:IntKind.i64.wrap ((k:Int)+1)=((k+1:Nat):Int):=by rw[IntWalk.i64_in _ (by omega)];omega
   clear a2 a5 c4 a4 R Z;have d4:(k:Int)+1<=9223372036854775807:=by omega
   have d1:(T:Int)<=4294967295:=by have:=b7.out;omega
   go_upto_region 9 with (first
    | (refine ld 195 _ rfl rfl rfl b3 underlying195 rfl (by simpa using I.out.2.2) ?_)
    | (go_at_call 106;refine(a1 w4).mono ?_;rintro e w5 ⟨rfl,a6⟩))
   have U:Hid (Bw w w5):=jz (aB b0 a6);clear a6;rcases Int.lt_or_le (x:Int) (T:Int) with d3|c6
   ·have O:Hid ((T:Int)=(cN d (k+1):Nat)):=jz (by
     have h2:jF (rdS d ((k:Nat):Int))=T:=by rw[HT.out,HS.out]
     have h1:cN d (k+1)=max (cN d k) T:=by rw[<- h2];rfl
     rw[h1]
     have:=HX.out
     omega)
    go_wp2_with fail
    go_step3
    refine⟨rfl,⟨⟨k+1,(cN d (k+1)),_,_,_,_,_,_,_,_,_,_,_,_,_,_,_,_,_,_,_,_,_,_,_,_,_,by rw[<- O.out];rfl,by omega,jz rfl,U⟩⟩,?_⟩;simp[intOf];omega
   ·have O:Hid ((x:Int)=(cN d (k+1):Nat)):=jz (by
     have h2:jF (rdS d ((k:Nat):Int))=T:=by rw[HT.out,HS.out]
     have h1:cN d (k+1)=max (cN d k) T:=by rw[<- h2];rfl
     rw[h1]
     have:=HX.out
     omega)
    have t9:decide (x<T)=false:=by simp only[decide_eq_false_iff_not];omega
    clear c6;go_wp2_with fail
    go_step3
    refine⟨rfl,⟨⟨k+1,(cN d (k+1)),_,_,_,_,_,_,_,_,_,_,_,_,_,_,_,_,_,_,_,_,_,_,_,_,_,by rw[<- O.out];rfl,by omega,jz rfl,U⟩⟩,?_⟩;simp[intOf];omega
  ·have b9:(n:Int)<=(k:Int):=by omega
   go_wp2_with fail
   simp only[Exit.jump];refine bodyPost_ret (results_tmp2 rfl _ _ _) rfl ?_;have c2:n=k:=by omega
   exact⟨by rw[c2,<- HX.out];rfl,HB⟩
def pI(d:DiskD):FSt:=fAt d (d.sec.length/2) ⟨0,cN d d.sec.length,0,0,false⟩ 2
def i6(d:DiskD):Ans×DiskD×Option (LogD×List b8):=match (pI d).1 with
 | some es=>(none,d,some ((pI d).2,es))
 | none=>if cN d d.sec.length=4294967295 then (some (13,none),d,none) else match wsA d 0 (rec (cN d d.sec.length+1) toll) with
  | some x=>(some x,wsD d 0 (rec (cN d d.sec.length+1) toll),none)
  | none=>(none,wsD d 0 (rec (cN d d.sec.length+1) toll),some (⟨0,cN d d.sec.length,cN d d.sec.length+1,0,false⟩,[]))
def cO(d:DiskD):Ans×DiskD×Option (LogD×List b8):=if d.sec.length<2 then (some (15,none),d,none) else match iU d with
 | some x=>(some x,cJ d,none)
 | none=>i6 (cJ d)
theorem CY{d:DiskD}(h:iU d=none):(cJ d).down=false/\(cJ d).opn=[]:=by
 unfold iU at h;unfold cJ;split at h
 ·cases h
 ·rename_i hd;split at h
  ·cases h
  ·rename_i D;split at h
   ·cases h
   ·rename_i h1;rw[jQ hd,jQ D,jQ h1];exact⟨by simpa [MB,aW] using hd,rfl⟩
theorem N4{d:DiskD}(h:d.steps<=d.room):(cJ d).room<=d.room+1:=by
 have h1:=pB h;unfold cJ;split
 ·omega
 ·split
  ·exact h1
  ·split
   ·exact h1
   ·exact h1
theorem IF(d:DiskD)(h:Nat)(L:LogD)(D:L.side<2/\L.last<4294967296/\L.gen<4294967296/\L.cnt<=10000)(hs:∀ f,(eN d f h).2.length<=10000/\∀ g,(eN d f h).1=some g->g<4294967296):∀ k,k<=2 ->
  ((fAt d h L k).1=none->(fAt d h L k).2=L)/\(fAt d h L k).2.side<2/\(fAt d h L k).2.last=L.last/\(fAt d h L k).2.gen<4294967296/\(fAt d h L k).2.cnt<=10000
 | 0,_=>⟨λ_=>rfl,D.1,rfl,D.2.2.1,D.2.2.2⟩
 | k+1,hk=>by
  have ih:=IF d h L D hs k (by omega);have I:=hs (bD h k);unfold fAt jY;cases hg:(eN d (bD h k) h).1 with
  | none=>exact ih
  | some g=>
   simp only;split
   ·exact ih
   ·exact⟨λe=>by simp at e,by show k<2;omega,ih.2.2.1,I.2 g hg,I.1⟩
theorem N5{s:Wl}(hs:Sec s){g:Nat}(h:nS s=some g):g<4294967296:=by
 unfold nS at h;cases hp:prs s with
 | none=>rw[hp] at h;cases h
 | some x=>
  obtain⟨D,p⟩:=x;rw[hp] at h;simp only at h;split at h
  ·injection h with h
   subst h;rw[Q0 hp];exact tC hs
  ·cases h
theorem yF:∀(L:List Wl) (st:SSt),(∀ s∈L,Sec s)->(∀ g,st.1=some g->g<4294967296)->∀ g,(fV st L).1=some g->g<4294967296
 | [],st,_,h0,g,h=>h0 g h
 | s :: L,st,hL,h0,g,h=>by
  rw[fV] at h;cases hq:iY st s with
  | none=>rw[hq] at h;exact h0 g h
  | some st'=>
   rw[hq] at h;refine yF L st' (λx I=>hL x (List.mem_cons_of_mem _ I)) (λJ D=>?_) g h;have hs:=hL s (List.mem_cons_self ..);unfold iY at hq;cases h1:st.1 with
   | none=>
    rw[h1] at hq;simp only at hq;cases hp:nS s with
    | none=>rw[hp] at hq;cases hq
    | some g2=>
     rw[hp] at hq;simp only[Option.map_some,Option.some.injEq] at hq;rw[<- hq] at D;simp only[Option.some.injEq] at D;rw[<- D];exact N5 hs hp
   | some g2=>
    rw[h1] at hq;simp only at hq;cases hp:oF s with
    | none=>rw[hp] at hq;cases hq
    | some ge=>
     rw[hp] at hq;simp only at hq;split at hq
     ·simp only[Option.some.injEq] at hq;rw[<- hq] at D;simp only[Option.some.injEq] at D;rw[<- D];exact h0 g2 h1
     ·cases hq
theorem N6{d:DiskD}(h:DOk d)(f n:Nat):(eN d f n).2.length<=10000/\∀ g,(eN d f n).1=some g->g<4294967296:=by
 have h1:=nL ((d.sec.drop f).take n) (none,[]);have D:=h.few;rw[jv,List.length_drop] at h1;refine⟨by unfold eN;simp at h1;omega,λg hg=>yF _ _ (λs hs=>h.sec s (List.mem_of_mem_drop (j7 hs))) (λg hg=>by cases hg) g hg⟩
def rW(w w':Wd)(m':DiskM)(n:Nat)(r:Ans×DiskD×Option (LogD×List b8))(pl ve:Value):Prop:=match r.2.2 with
 | none=>pl = .pointer none/\ve = .slice none 0 0
 | some (L,es)=>∃ gl,pl = .pointer (some ⟨gl,0,none⟩)/\LK w' m' r.2.1 gl (n/2) L/\w.heap.size<=gl/\w'.ownsRow w.heap.size 26 33 ve es.length (es.flatMap aO)/\(∀ q∈es,EntOk q)/\(∀ b,ve.ownBlock=some b->Apart m' b/\b≠gl)
theorem N7(w:Wd)(m:DiskM)(d:DiskD)(hk:DK w m d)(hr:d.room+10<=100000):
  Wc 45 #[.pointer (some ⟨m.g,0,none⟩)] w λe w'=>∃ pl ve m',e = .returned (.tuple #[pl,ve,bV (cO d).1])/\DK w' m' (cO d).2.1/\DT w m w' m'/\rW w w' m' d.sec.length (cO d) pl ve:=by
 have HK:=jz hk;have r0:=hk.ok.few;have k5:=jz (λW M D (h:DK W M D)=>yA W M D h);have a0:=jz (nI w m d hk (by omega));rw[nJ] at a0;have r3:=jZ;obtain⟨g9,c4⟩:=je m.g;have n6:Hid (m.g=g9):=jz c4.symm;obtain⟨n,hn⟩:=je d.sec.length;have HN:Hid (d.sec.length=n):=jz hn.symm;have r2:(n:Int)<=4096:=by omega
 have c2:=jz (k5 w m d hk);have q6:=hk.ok.st;rw[<- c4,<- hn] at c2;rw[<- c4] at a0;rw[<- c4,<- hn];clear hk c4;rcases jo n 2 with h2|h2
 ·have Z:Hid (cO d=(some (15,none),d,none)):=jz (by unfold cO;rw[jP (by omega)]);have hi:(n:Int)<2:=by omega
  clear hn;go_enter func45,ntmps45
  go_wp2_with fail
  refine c2.mono ?_;rintro e wq ⟨rfl,a3⟩;rw[a3];clear a3 wq;go_wp2_with fail
  refine bodyPost_ret (results_tmp3 rfl _ _ _) rfl ?_;exact⟨_,_,m,by rw[Z.out];rfl,by rw[Z.out];exact HK,DT.refl,by unfold rW;rw[Z.out];exact⟨rfl,rfl⟩⟩
 have hi:(2:Int)<=n:=by omega
 cases hsa:iU d with
 | some x=>
  have Z:Hid (cO d=(some x,cJ d,none)):=jz (by unfold cO;rw[jQ (by omega),hsa]);obtain⟨t,u,hv⟩:=cH x;rw[hsa,hv] at a0;have g0:Hid (bV (some x) = .iface t u):=jz hv;have e3:=dR t u;clear hn hsa hv;go_enter func45,ntmps45
  go_wp2_with fail
  refine c2.mono ?_;rintro e wq ⟨rfl,a3⟩;rw[a3];clear a3 wq;go_wp2_with fail
  refine a0.mono ?_;rintro e w1 ⟨rfl,K,e1,d2⟩;go_wp2_with fail
  refine bodyPost_ret (results_tmp3 rfl _ _ _) rfl ?_;exact⟨_,_,K,by rw[Z.out,g0.out];rfl,by rw[Z.out];exact e1,d2,by unfold rW;rw[Z.out];exact⟨rfl,rfl⟩⟩
 | none=>
  obtain⟨I,e0⟩:=je (cJ d);have Z:Hid (cO d=i6 I):=jz (by unfold cO;rw[jQ (by omega),hsa,e0]);have a9:Hid (I.down=false/\I.opn=[]/\I.sec.length=n/\I.room<=d.room+1):=jz (by rw[e0];exact⟨(CY hsa).1,(CY hsa).2,(eU d).trans hn.symm,N4 q6⟩);rw[<- e0,hsa] at a0;simp only[bV] at a0;clear hn hsa e0;go_enter func45,ntmps45
  go_wp2_with fail
  refine c2.mono ?_;rintro e wq ⟨rfl,a3⟩;rw[a3];clear a3 wq;go_wp2_with fail
  refine a0.mono ?_;rintro e w1 ⟨rfl,K,e1,d2⟩;obtain rfl:K.g=g9:=d2.g.trans n6.out;have a5:=jz e1;have d5:=jz d2;obtain⟨w2,e4⟩:=je (w1.alloc (.cells (bU K.g 0 ⟨0,0,0,0,false⟩) 141));have f0:Hid (Blk w2 w1.heap.size 141 (bU K.g 0 ⟨0,0,0,0,false⟩)):=jz (by rw[e4];exact Blk.new _ _ _);have g1:Hid (Bw w1 w2):=jz (by rw[e4];exact aV _ _);clear e1 d2 a0 c2;go_upto_region 7 with fail
  obtain⟨gl,g8⟩:=je w1.heap.size;have a4:Hid (w1.heap.size=gl):=jz g8.symm;have e8:w2=w1.alloc (.cells #[.pointer (some ⟨K.g,0,none⟩),.int .i64 0,.int .i64 0,.int .i64 0,.int .i64 0,.int .i64 0,.int .u32 0,.int .u32 0,.int .i64 0,.bool false] 141):=e4;rw[<- e8];rw[<- g8] at f0 ⊢;have q5:=f0.lt;clear e4 e8 g8;obtain⟨wS,a2⟩:=je w2.drew;have d4:Hid (Bw w2 wS):=jz (by rw[a2];exact(ji _ _).drew);have f4:=jz ((a5.keep g1).keep d4);have h4:=jz (f0.keep d4);refine kZ (n:=16) (λ_=>True) (trivial) (h:=λhH=>?_);rw[<- a2];clear a2;refine qM 0 (.pointer (some ⟨gl,0,none⟩)) ?_;refine qM 1 (.pointer (some ⟨gl,0,none⟩)) ?_;refine qM 2 (.pointer (some ⟨K.g,0,none⟩)) ?_;refine qT 8 (.pointer (some ⟨gl,0,none⟩)) ?_;refine qT 9 (.pointer (some ⟨gl,1,none⟩)) ?_;refine qT 12 (.pointer (some ⟨gl,0,none⟩)) ?_;refine qT 13 (.pointer (some ⟨gl,1,none⟩)) ?_;refine kF 3 (some 28) ((k5 wS K I f4).mono ?_);rintro e w3 ⟨rfl,rfl⟩;refine⟨_,rfl,trivial,λhH=>?_⟩;simp only[jq];rw[a9.out.2.2.1];refine kF 4 (some 29) ((B7 n w3 (by omega)).mono ?_);rintro e w4 ⟨rfl,d7⟩;refine⟨_,rfl,trivial,λhH=>?_⟩;simp only[jq];refine qM 5 (.tuple #[.agg #[.int .i64 0,.int .i64 ((n/2:Nat):Int)],.agg #[.int .i64 ((n/2:Nat):Int),.int .i64 ((n/2:Nat):Int)]]) ?_;refine qT 6 (.agg #[.int .i64 0,.int .i64 ((n/2:Nat):Int)]) ?_;refine qT 7 (.agg #[.int .i64 ((n/2:Nat):Int),.int .i64 ((n/2:Nat):Int)]) ?_;refine qT 10 (.pointer (some ⟨gl,1,none⟩)) ?_;obtain⟨J,h0⟩:∃ J:Nat,J=n/2:=⟨_,rfl⟩;rw[<- h0];have g2:=(h4.keep d7);have a7:=fS (t:=141) [.pointer (some ⟨K.g,0,none⟩)] [.int .i64 0,.int .i64 0] [.int .i64 0,.int .i64 0,.int .i64 0,.int .u32 0,.int .u32 0,.int .i64 0,.bool false] [.int .i64 0,.int .i64 J] g2 rfl;have b9:=fS (t:=141) [.pointer (some ⟨K.g,0,none⟩),.int .i64 0,.int .i64 J] [.int .i64 0,.int .i64 0] [.int .i64 0,.int .u32 0,.int .u32 0,.int .i64 0,.bool false] [.int .i64 J,.int .i64 J] a7.1 rfl;have d0:∀ a b:Int,∀ u∈[Value.int .i64 a,Value.int .i64 b],u.oneCell'=true:=λa b u hu=>by simp only[jl,j8,or_false] at hu;rcases hu with rfl|rfl <;> rfl
  refine kR 11 none (n:=2) (cs:=[.int .i64 0,.int .i64 J]) (bX g2 (by show 1+2<=10;omega)) rfl (d0 _ _) trivial (h:=?_);simp only[jq];refine qT 14 (.pointer (some ⟨gl,3,none⟩)) ?_;refine kR 15 none (n:=2) (cs:=[.int .i64 J,.int .i64 J]) (bX a7.1 (by show 3+2<=10;omega)) rfl (d0 _ _) trivial (h:=?_);simp only[jq];refine kE (h:=?_);obtain⟨w5,e5⟩:=je ((w4.setCells gl 1 [.int .i64 0,.int .i64 J]).setCells gl 3 [.int .i64 J,.int .i64 J]);rw[<- e5];have n2:Hid (Blk w5 gl 141 (bU K.g J ⟨0,0,0,0,false⟩)):=jz (by rw[e5];exact b9.1);have k3:Hid (Off gl w4 w5):=jz (by rw[e5];exact a7.2.1.trans b9.2.1);have f2:Hid (n/2=J):=jz h0.symm;have k2:Hid (Bw w1 w5):=jz ((aB (aB g1 d4) d7).trans (k3.below (by rw[a4.out];exact ja _) (by have h1:=g1.size;have h2:=d4.size;have h3:=d7.size;omega)));have p7:=jz (a5.keep k2);have b1:Hid (Apart K gl):=jz (Apart.fresh a5 (by rw[a4.out];exact ja _));have U:=a9.out.2.2.1;have f9:=jz (sN w5 K I p7 a9.out.1);rw[U] at f9;obtain⟨R,c9⟩:=je (cN I n);have b7:Hid (R<4294967296):=jz (by rw[c9];exact vJ a5.ok n);rw[<- c9] at f9;have m8:(R:Int)<=4294967295:=by have:=b7.out;omega
  have q1:Hid (pI I=fAt I J ⟨0,R,0,0,false⟩ 2):=jz (by unfold pI;rw[U,f2.out,<- c9]);have k0:Hid (cN I I.sec.length=R):=jz (by rw[U];exact c9.symm);have f3:Hid (J+J<=I.sec.length/\J=I.sec.length/2):=jz (by rw[U];omega);have r1:Hid (J=d.sec.length/2):=jz (by rw[HN.out];omega);clear c9 U h0 a7 b9 d0 d7 g2 e5 k3 q5;go_wp2_with fail
  refine f9.mono ?_;rintro e w6 ⟨rfl,g3⟩;have d3:=jz (n2.keep g3);have p9:Hid (Bw w1 w6):=jz (aB k2 g3);have c6:w6.cell? ⟨gl,6,none⟩=some (.int .u32 0):=(d3.cell 6).trans rfl;have f6:=d3.frozen 6;have m5:=d3.lt;clear g3;go_wp2_with fail
  obtain⟨w7,e6⟩:=je (w6.setCell ⟨gl,6,none⟩ (.int .u32 R));have h5:Hid (Blk w7 gl 141 (bU K.g J ⟨0,R,0,0,false⟩)):=jz (by rw[e6];exact d3.set_ 6 _);have b2:Hid (Bw w1 w7):=jz (by rw[e6];exact p9.setCell (p:=⟨gl,6,none⟩) (by rw[a4.out];exact ja _) _);rw[<- e6];clear e6 c6 f6 m5;refine(N2 w7 K I gl J ⟨0,R,0,0,false⟩ (a5.keep b2) h5 b1 a9.out.1 a9.out.2.1 f3.out.1).mono ?_;rintro e w8 ⟨v,rfl,hfr⟩;have O:=IF I J ⟨0,R,0,0,false⟩ ⟨by show 0<2;omega,b7,by show 0<_;omega,by show 0<=_;omega⟩ (λf=>N6 a5.ok f J) 2 (ja _);rw[<- q1.out] at hfr O ⊢;obtain⟨p,hp⟩:=je (pI I);have HP:Hid (pI I=p):=jz hp.symm;rw[<- hp] at hfr O ⊢;have h9:Hid (Bw w1 w8):=jz (b2.trans (hfr.fo.below (λk hk=>by rw[List.mem_singleton] at hk;rw[hk,a4.out];exact ja _) b2.size));have b3:Hid (LK w8 K I gl J p.2):=jz ⟨hfr.dk,hfr.blk,b1,⟨O.2.1,by rw[O.2.2.1];exact b7,O.2.2.2.1,O.2.2.2.2,f3.out.2⟩⟩;have k4:Hid (w8.ownsRow w.heap.size 26 33 v (p.1.getD []).length ((p.1.getD []).flatMap aO)):=jz (aT hfr.own (by have h1:=d5.fo.size;have h2:=b2.size;omega));have q0:Hid (∀ b,v.ownBlock=some b->Apart K b/\b≠gl):=jz (λb e=>⟨Apart.fresh (a5.keep b2) (hfr.own.lt b e).1,λe2=>by have h1:=h5.lt;have h2:=(hfr.own.lt b e).1;omega⟩);have h6:=jz hfr.ok;have h8:Hid (w.heap.size<=gl):=jz (by have h1:=d5.fo.size;have h2:=a4.out;omega);have p6:=jz O.1;have k6:Hid (DT w m w8 K):=jz (d5.trans (DT.of_below h9));clear hp hfr O;cases hp1:p.1 with
  | some es=>
   have V:Hid (i6 I=(none,I,some (p.2,es))):=jz (by unfold i6;rw[HP.out,hp1]);rw[hp1] at k4 h6;clear hp1;simp only[Option.isSome_some];go_wp2_with fail
   refine bodyPost_ret (results_tmp3 rfl _ _ _) rfl ?_;refine⟨_,_,K,by rw[Z.out,V.out];rfl,by rw[Z.out,V.out];exact b3.dk,k6,?_⟩;unfold rW;rw[Z.out,V.out];exact⟨gl,rfl,by rw[f2.out];exact b3,h8,k4,h6,q0⟩
  | none=>
   simp only[Option.isSome_none];rcases jo R 4294967295 with m9|m9
   ·have q2:Hid (p.2=⟨0,R,0,0,false⟩):=jz (p6 hp1);have e3:R≠4294967295:=by omega
    obtain⟨gn,m4⟩:=je (R+1);have V:Hid (i6 I=match wsA I 0 (rec gn toll) with
      | some x=>(some x,wsD I 0 (rec gn toll),none)
      | none=>(none,wsD I 0 (rec gn toll),some (⟨0,R,gn,0,false⟩,[]))):=jz (by unfold i6;rw[HP.out,hp1];simp only[k0.out,jQ e3,m4])
    have a8:Hid (Blk w8 gl 141 (bU K.g J ⟨0,R,0,0,false⟩)):=jz (by have h:=b3.blk;rw[q2.out] at h;exact h);have c5:w8.cell? ⟨gl,5,none⟩=some (.int .i64 0):=(a8.cell 5).trans rfl;have c7:w8.cell? ⟨gl,7,none⟩=some (.int .u32 0):=(a8.cell 7).trans rfl;have f5:=a8.frozen 5;have f7:=a8.frozen 7;have q7:=a8.lt;have k1:Hid ((R:Int)<4294967295):=jz (by omega);have t9:((R:Int) == 4294967295)=false:=by rw[beq_eq_false_iff_ne];omega
    have n7:Hid ((R:Int)+1=gn):=jz (by omega);have h7:Hid (gn<4294967296):=jz (by omega);clear hp1 m4 e3 m9 m8;go_upto_region 19 with fail
    have q8:=k1.out;go_upto_region 21 with fail
    rw[n7.out];obtain⟨w9,b0⟩:=je ((w8.setCell ⟨gl,5,none⟩ (.int .i64 0)).setCell ⟨gl,7,none⟩ (.int .u32 (gn:Int)));have n3:Hid (Blk w9 gl 141 (bU K.g J ⟨0,R,gn,0,false⟩)):=jz (by rw[b0];exact(a8.set_ 5 _).set_ 7 _);have m6:∀ j,j≠gl->w9.heap[j]? = w8.heap[j]?:=λj hj=>by rw[b0,Below.heap_setCell _ ⟨gl,7,none⟩ _ j hj,Below.heap_setCell _ ⟨gl,5,none⟩ _ j hj]
    have p8:Hid (DK w9 K I):=jz (b3.dk.offK m6 (by rw[b0];simp) b1);have q4:Hid (DT w m w9 K):=jz (d5.trans (DT.of_below (by rw[b0];exact(h9.setCell (p:=⟨gl,5,none⟩) (by rw[a4.out];exact ja _) _).setCell (p:=⟨gl,7,none⟩) (by rw[a4.out];exact ja _) _)));rw[<- b0];clear b0 m6 c5 c7 f5 f7 t9;obtain⟨wS,a2⟩:=je w9.drew;have f1:Hid (Bw w9 wS):=jz (by rw[a2];exact(ji _ _).drew);have f4:=jz (p8.keep f1);have q3:Hid (∀ W,Blk W gl 141 (bU K.g J ⟨0,R,gn,0,false⟩)->W.rangeAt gl 1 [.int .i64 0,.int .i64 J]):=jz (λW hk=>pH hk 0 (by omega));refine kZ (n:=12) (λW=>Blk W gl 141 (bU K.g J ⟨0,R,gn,0,false⟩)) (by rw[<- a2];exact n3.keep f1) (h:=λhH=>?_);rw[<- a2] at hH ⊢;clear a2;refine qM 0 (.pointer (some ⟨K.g,0,none⟩)) ?_;refine qM 1 (.pointer (some ⟨gl,0,none⟩)) ?_;refine qT 2 (.pointer (some ⟨gl,0,none⟩)) ?_;refine qT 3 (.pointer (some ⟨gl,1,none⟩)) ?_;refine qT 4 (.pointer (some ⟨gl,1,none⟩)) ?_;refine qL 5 (cs:=[.int .i64 0,.int .i64 J]) (λ_ hX=>q3.out _ hX) (rfl) ?_;refine qM 6 (.pointer (some ⟨gl,0,none⟩)) ?_;refine qT 7 (.pointer (some ⟨gl,0,none⟩)) ?_;refine qT 8 (.pointer (some ⟨gl,7,none⟩)) ?_;refine qC 9 (v:=.int .u32 gn) (λ_ hX=>(hX.cell 7).trans rfl) ?_;refine kF 10 (some 83) ((rT 0 J gn wS K I f4 (by exact⟨by decide,by decide⟩) h7 (by have:=a9.out.2.2.2;omega)).mono ?_);rintro e n0 ⟨rfl,m2,e7,a1⟩;have c3:Blk n0 gl 141 (bU K.g J ⟨0,R,gn,0,false⟩):=(a1.off hH.lt b1.out.1).trans hH;refine⟨_,rfl,c3,λm3=>?_⟩;simp only[jq];refine qT 11 (bV (wsA I 0 (rec gn toll))) ?_;refine kE (h:=?_);have f8:=jz e7;have k7:=jz ((q4.trans (DT.of_below f1)).trans a1);have n1:=jz (b1.next hH.lt a1);have n4:Hid (Blk n0 gl 141 (bU m2.g J ⟨0,R,gn,0,false⟩)):=jz (by rw[a1.g];exact c3);clear e7 a1 c3 m3 hH;cases hpa:wsA I 0 (rec gn toll) with
    | some x=>
     have a6:Hid (i6 I=(some x,wsD I 0 (rec gn toll),none)):=jz (by rw[V.out,hpa]);obtain⟨t,u,hv⟩:=cH x;have g0:=jz hv;have e3:=dR t u;rw[hv];clear hpa hv;go_wp2_with fail
     refine bodyPost_ret (results_tmp3 rfl _ _ _) rfl ?_;refine⟨_,_,m2,by rw[Z.out,a6.out,g0.out];rfl,by rw[Z.out,a6.out];exact f8,k7,?_⟩;unfold rW;rw[Z.out,a6.out];exact⟨rfl,rfl⟩
    | none=>
     have a6:Hid (i6 I=(none,wsD I 0 (rec gn toll),some (⟨0,R,gn,0,false⟩,[]))):=jz (by rw[V.out,hpa]);have hv:bV none = .nilIface:=rfl;rw[hv];clear hpa hv;go_wp2_with fail
     refine bodyPost_ret (results_tmp3 rfl _ _ _) rfl ?_;refine⟨_,_,m2,by rw[Z.out,a6.out];rfl,by rw[Z.out,a6.out];exact f8,k7,?_⟩;unfold rW;rw[Z.out,a6.out];exact⟨gl,rfl,by rw[f2.out];exact⟨f8,n4,n1,⟨by show 0<2;omega,b7,h7,by show 0<=10000;omega,by rw[lX];exact f3.out.2⟩⟩,h8,World.ownsRow_nil _ _ _ _,(λq hq=>by cases hq),λb e=>by cases e⟩
   ·obtain rfl:R=4294967295:=by have:=b7.out;omega
    have V:Hid (i6 I=(some (13,none),I,none)):=jz (by unfold i6;rw[HP.out,hp1];simp only[k0.out];rfl);clear hp1;go_wp2_with fail
    refine bodyPost_ret (results_tmp3 rfl _ _ _) rfl ?_;refine⟨_,_,K,by rw[Z.out,V.out];rfl,by rw[Z.out,V.out];exact b3.dk,k6,?_⟩;unfold rW;rw[Z.out,V.out];exact⟨rfl,rfl⟩
def Bd(c:Nat)(d d':DiskD):Prop:=d'.steps<=d'.room/\d'.room<=d.room+c/\d'.sec.length=d.sec.length
theorem Bd.mono{c D:Nat}{d d':DiskD}(h:Bd c d d')(I:c<=D):Bd D d d':=⟨h.1,by have:=h.2.1;omega,h.2.2⟩
theorem Bd.trans{a b:Nat}{d d' D:DiskD}(h:Bd a d d')(k:Bd b d' D):Bd (a+b) d D:=⟨k.1,by have:=h.2.1;have:=k.2.1;omega,k.2.2.trans h.2.2⟩
theorem vK{d:DiskD}(h:d.steps<=d.room):Bd 1 d (aW d):=⟨by show d.steps+1<=max d.room (d.steps+1);omega,by show max d.room (d.steps+1)<=d.room+1;omega,rfl⟩
theorem N9{d:DiskD}(h:d.steps<=d.room)(a:Int)(s:Wl):Bd 1 d (iT d a s):=by
 unfold iT;split
 ·exact⟨by show d.steps<=d.room+1;omega,ja _,rfl⟩
 ·exact⟨h,by omega,rfl⟩
theorem yG{d:DiskD}(h:d.steps<=d.room)(cl:Wl):Bd 0 d (qF d cl):=⟨h,ja _,lM _ _ _⟩
theorem yH{d:DiskD}(h:d.steps<=d.room)(a:Int)(s:Wl):Bd 2 d (bH d a s):=by
 have h1:=vK h;have D:=h1.trans (N9 h1.1 a s);unfold bH;split
 ·exact⟨h,by omega,rfl⟩
 ·split
  ·exact D.trans (yG D.1 _)
  ·split
   ·exact h1.mono (by omega)
   ·exact D
theorem vL{d:DiskD}(h:d.steps<=d.room):Bd 1 d (cJ d):=by
 have h1:=vK h;unfold cJ;split
 ·exact⟨h,by omega,rfl⟩
 ·split
  ·exact h1.trans (yG h1.1 _)
  ·split
   ·exact h1
   ·exact⟨h1.1,h1.2.1,nH _ _ _⟩
theorem FE{d:DiskD}(h:d.steps<=d.room)(a:Int)(s:Wl):Bd 3 d (wsD d a s):=by
 have h1:=yH h a s;unfold wsD;split
 ·exact h1.mono (by omega)
 ·exact h1.trans (vL h1.1)
theorem CZ:∀(L:List Wl) (d:DiskD) (a:Int),d.steps<=d.room->Bd (2*L.length+1) d (iG d a L).2
 | [],d,a,h=>(vL h).mono (by simp)
 | s :: L,d,a,h=>by
  have h1:=yH h a s;unfold iG;split
  ·exact h1.mono (by simp;omega)
  ·exact(h1.trans (CZ L _ _ h1.1)).mono (by simp;omega)
theorem C0{d:DiskD}(h:d.steps<=d.room)(f z:Int)(g:Nat)(l:List b8):Bd (2*l.length+1) d (dE d f z g l).2:=by
 unfold dE;split
 ·exact⟨h,by simp,rfl⟩
 ·split
  ·exact(CZ _ _ _ h).mono (by simp)
  ·exact⟨h,by simp,rfl⟩
end
end Go.Proofs.YtjjlaipkkdncfaaGreatDoor
