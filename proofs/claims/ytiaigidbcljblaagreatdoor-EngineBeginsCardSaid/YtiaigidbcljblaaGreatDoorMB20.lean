import Derived.Test.YtiaigidbcljblaaGreatDoorMB12
import Derived.Test.YtiaigidbcljblaaGreatDoorMB15
set_option linter.unusedSimpArgs false
set_option maxRecDepth 100000
set_option maxHeartbeats 40000000
namespace Go.Proofs.YtiaigidbcljblaaGreatDoor
open Go.Proofs.Tryz
section
open Go.RowKit
attribute [local irreducible] wpQuiet wpAnyH
structure LogD where
 side:Nat
 last:Nat
 gen:Nat
 cnt:Nat
 brk:Bool
def bV(g h:Nat)(L:LogD):Wa:=#[.pointer (some ⟨g,0,none⟩),.int .i64 0,.int .i64 h,.int .i64 h,.int .i64 h,.int .i64 L.side,.int .u32 L.last,.int .u32 L.gen,.int .i64 L.cnt,.bool L.brk]
structure LogOk(d:DiskD)(h:Nat)(L:LogD):Prop where
 side:L.side<2
 last:L.last<4294967296
 gen:L.gen<4294967296
 cnt:L.cnt<=10000
 half:h=d.sec.length/2
structure LK(w:Wd)(m:DiskM)(d:DiskD)(gl h:Nat)(L:LogD):Prop where
 dk:DK w m d
 blk:Blk w gl 327 (bV m.g h L)
 ap:Apart m gl
 ok:LogOk d h L
structure LT(gl:Nat)(w:Wd)(m:DiskM)(w':Wd)(m':DiskM):Prop where
 g:m'.g=m.g
 fo:Fo (gl :: aX m) w w'
 sub:∀ k∈aX m',k∈aX m\/w.heap.size<=k
 cv:∀ k v,m'.cv k=some v->m.cv k=some v\/∀ b,v.ownBlock=some b->w.heap.size<=b
section
variable {w w' w'' : Wd} {m m' m'' : DiskM} {d d' : DiskD} {gl h : Nat} {L L' : LogD}
theorem Fo.wide{F G:List Nat}(h:Fo F w w')(hs:∀ x∈F,x∈G):Fo G w w':=⟨h.os,h.tape,h.output,h.size,λk j I=>h.block k j (λD=>I (hs k D))⟩
theorem LT.of_dt(h:DT w m w' m'):LT gl w m w' m':=⟨h.g,h.fo.wide (λ_ j=>List.mem_cons_of_mem _ j),h.sub,h.cv⟩
theorem LT.of_below(h:Bw w w'):LT gl w m w' m:=LT.of_dt (DT.of_below h)
theorem LT.trans(h:LT gl w m w' m')(k:LT gl w' m' w'' m''):LT gl w m w'' m'':=
 ⟨k.g.trans h.g,h.fo.trans k.fo (λx j=>by
  rcases List.mem_cons.1 j with rfl|j
  ·exact .inl (List.mem_cons_self ..)
  ·exact(h.sub x j).imp (λh=>List.mem_cons_of_mem _ h) id),λx j=>by
  rcases k.sub x j with h1|h1
  ·exact h.sub x h1
  ·exact .inr (jm h.fo.size h1),λx v j=>by
  rcases k.cv x v j with h1|h1
  ·exact h.cv x v h1
  ·exact .inr (λb e=>jm h.fo.size (h1 b e))⟩
theorem LT.set(h:LT gl w m w' m')(i:Nat)(u:Value):LT gl w m (w'.setCell ⟨gl,i,none⟩ u) m':=⟨h.g,h.fo.set gl i (List.mem_cons_self ..) u,h.sub,h.cv⟩
theorem LT.below{B:Nat}(h:LT gl w m w' m')(x:∀ k∈aX m,B<=k)(hg:B<=gl)(j:B<=w.heap.size):Below B w w':=h.fo.below (λk D=>(List.mem_cons.1 D).elim (λe=>by omega) (x k)) j
theorem LT.le{B:Nat}(h:LT gl w m w' m')(j:∀ k∈aX m,B<=k)(D:B<=w.heap.size):∀ k∈aX m',B<=k:=λk x=>by
 rcases h.sub k x with h1|h1
 ·exact j k h1
 ·omega
theorem LK.keep(k:LK w m d gl h L)(hb:Bw w w'):LK w' m d gl h L:=⟨k.dk.keep hb,k.blk.keep hb,k.ap,k.ok⟩
theorem LogOk.len(k:LogOk d h L)(j:d'.sec.length=d.sec.length):LogOk d' h L:=⟨k.side,k.last,k.gen,k.cnt,by rw[j];exact k.half⟩
theorem LK.disk(k:LK w m d gl h L)(j:DK w' m' d')(ht:DT w m w' m')(x:d'.sec.length=d.sec.length):LK w' m' d' gl h L:=
 ⟨j,by rw[ht.g];exact(ht.off k.blk.lt k.ap.1).trans k.blk,k.ap.next k.blk.lt ht,k.ok.len x⟩
theorem LK.set(k:LK w m d gl h L)(i:Nat)(u:Value)(hc:(bV m.g h L).setIfInBounds i u=bV m.g h L')(ho:LogOk d h L'):LK (w.setCell ⟨gl,i,none⟩ u) m d gl h L':=
 have hb:Below gl w (w.setCell ⟨gl,i,none⟩ u):=(ji gl w).setCell (p:=⟨gl,i,none⟩) (ja _) _
 ⟨k.dk.offK (λj x=>Below.heap_setCell _ ⟨gl,i,none⟩ _ j x) hb.size k.ap,by rw[<- hc];exact k.blk.set_ i u,k.ap,ho⟩
theorem LK.cells(k:LK w m d gl h L):w.cell? ⟨gl,0,none⟩=some (.pointer (some ⟨m.g,0,none⟩))/\w.cell? ⟨gl,5,none⟩=some (.int .i64 L.side)/\w.cell? ⟨gl,6,none⟩=some (.int .u32 L.last)/\w.cell? ⟨gl,7,none⟩=some (.int .u32 L.gen)/\w.cell? ⟨gl,8,none⟩=some (.int .i64 L.cnt)/\w.cell? ⟨gl,9,none⟩=some (.bool L.brk):=
 ⟨(k.blk.cell 0).trans rfl,(k.blk.cell 5).trans rfl,(k.blk.cell 6).trans rfl,(k.blk.cell 7).trans rfl,(k.blk.cell 8).trans rfl,(k.blk.cell 9).trans rfl⟩
end
def bA(h s:Nat):Nat:=if s=0 then 0 else h
theorem p7{w:Wd}{gl g h:Nat}{L:LogD}(k:Blk w gl 327 (bV g h L))(s:Nat)(hs:s<2):w.rangeAt gl (1+s*2) [.int .i64 (bA h s),.int .i64 h]:=by
 intro j u x;rw[k.cell];have D:s=0\/s=1:=by omega
 rcases D with rfl|rfl
 all_goals
  match j with
  | 0=>simpa [bV,bA] using x
  | 1=>simpa [bV,bA] using x
  | j+2=>simp at x
theorem y7(w:Wd)(m:DiskM)(d:DiskD)(h:DK w m d):
  Wc 200 #[.pointer (some ⟨m.g,0,none⟩)] w λe w'=>e = .returned (.int .i64 d.sec.length)/\w'=w:=by
 obtain⟨A,cap,x,_⟩:=Sn.own h.sec;have j:=h.blk.cell 0;simp only[eE,jf,jg,x] at j;go_enter func200,ntmps200
 go_wp2_with fail
 go_ret;exact⟨rfl,rfl⟩
theorem y8(s:Wl)(w:Wd)(hl:s.length=64)(hb:Bys s):
  Wc 262 #[.agg (u8s s).toArray] w (Rt w (.int .u32 (beN ((s.drop 60).take 4)))):=by
 obtain⟨Z,j⟩:=je (w.alloc (.cells (u8s s).toArray 243));have J:Blk Z w.heap.size 243 (u8s s).toArray:=by rw[j];exact Blk.new _ _ _
 have K:Bw w Z:=by rw[j];exact aG _ _
 have hd:(s.drop 60).length=4:=by rw[List.length_drop,hl]
 have a3:Hid (Sn Z 1 (.slice (some ⟨w.heap.size,60,none⟩) 4 4) (s.drop 60).length (u8s (s.drop 60))):=jz (by
  have:=Sn.of_blk J 60 4 4 (by omega) (by omega)
  rw[List.take_of_length_le (by omega)] at this
  rw[hd];exact this)
 have D:Hid (Bys (s.drop 60)):=jz (λc hc=>hb c (List.mem_of_mem_drop hc));have I:=jz K;have HD:=jz hd;have a1:Hid (beN ((s.drop 60).take 4)<4294967296):=jz (by
  have:=mX ((s.drop 60).take 4) (λc hc=>D.out c (j7 hc))
  rw[jv,hd] at this
  exact this)
 clear J K hd hl hb;go_enter func262,ntmps262
 go_upto_region 1 with fail
 rw[<- j];clear j;go_wp2_with fail
 refine(BV _ (s.drop 60) Z a3 (by rw[HD.out];omega)).mono ?_;rintro e w2 ⟨r,v,rfl,hR,hr,O⟩;have HR:=jz hR;have x:=jz (aA I O);have a2:Hid (w.heap.size<=r):=jz (by have:=I.size;omega);clear hR hr O;go_wp2_with fail
 refine(gP r v (s.drop 60) false 4 w2 HR D (by rw[HD.out];omega) (by omega) (by omega)).mono ?_;rintro e w3 ⟨U,⟨_,_,v3,rfl,a4⟩|⟨R,_,_⟩⟩
 ·have a0:Hid (Bw w w3):=jz (x.trans (U.below a2 x.size));obtain⟨X,V⟩:=je (beN ((s.drop 60).take 4));have a5:X<4294967296:=by rw[V];exact a1.out
  rw[<- V];have HX:=jz V;have hi:(X:Int)<=4294967295:=by omega
  have h0:(0:Int)<=X:=by omega
  clear V U a4;go_wp2_with fail
  go_ret;exact⟨by rw[<- HX.out];rfl,a0⟩
 ·rcases R with h|h
  ·cases h
  ·rw[HD.out] at h;omega
def oV(L:LogD)(c:Int):LogD:=if c=11\/c=12 then { L with brk:=true } else L
theorem vT(x:Ans)(w:Wd)(m:DiskM)(d:DiskD)(gl h:Nat)(L:LogD)(k:LK w m d gl h L):
  Wc 229 #[.pointer (some ⟨gl,0,none⟩),bK x] w λe w'=>e = .returned (bK x)/\LK w' m d gl h (oV L (cN x))/\LT gl w m w' m:=by
 obtain⟨v,U⟩:=je (bK x);have D:=jz (nD x w);rw[<- U] at D ⊢;obtain⟨c,R⟩:=je (cN x);rw[<- R] at D ⊢;have J:=jz k;clear U R k;rcases jb (c == 11) with K|K
 ·have I:Hid (oV L c={ L with brk:=true }):=jz (by unfold oV;rw[jP (.inl (by simpa using K))]);go_enter func229,ntmps229
  go_wp2_with fail
  refine D.mono ?_;rintro e w2 ⟨rfl,j⟩;have HK2:=jz (J.keep j);have HT2:Hid (LT gl w m w2 m):=jz (LT.of_below j);obtain⟨c0,V,Z,c7,c8,c9⟩:=HK2.cells;have f9:=HK2.blk.frozen 9;clear j;go_wp2_with fail
  go_ret;exact⟨rfl,by rw[I.out];exact HK2.set 9 _ rfl ⟨HK2.ok.side,HK2.ok.last,HK2.ok.gen,HK2.ok.cnt,HK2.ok.half⟩,HT2.set 9 _⟩
 ·rcases jb (c == 12) with O|O
  ·have I:Hid (oV L c={ L with brk:=true }):=jz (by unfold oV;rw[jP (.inr (by simpa using O))]);go_enter func229,ntmps229
   go_wp2_with fail
   refine D.mono ?_;rintro e w2 ⟨rfl,j⟩;have HK2:=jz (J.keep j);have HT2:Hid (LT gl w m w2 m):=jz (LT.of_below j);obtain⟨c0,V,Z,c7,c8,c9⟩:=HK2.cells;have f9:=HK2.blk.frozen 9;clear j;go_wp2_with fail
   go_ret;exact⟨rfl,by rw[I.out];exact HK2.set 9 _ rfl ⟨HK2.ok.side,HK2.ok.last,HK2.ok.gen,HK2.ok.cnt,HK2.ok.half⟩,HT2.set 9 _⟩
  ·have I:Hid (oV L c=L):=jz (by unfold oV;rw[jQ (λh=>h.elim (λe=>by simp[e] at K) (λe=>by simp[e] at O))]);go_enter func229,ntmps229
   go_wp2_with fail
   refine D.mono ?_;rintro e w2 ⟨rfl,j⟩;have HK2:=jz (J.keep j);have HT2:Hid (LT gl w m w2 m):=jz (LT.of_below j);clear j;go_wp2_with fail
   go_ret;exact⟨rfl,by rw[I.out];exact HK2,HT2⟩
def WT(w:Wd)(gl:Nat)(g h:Nat)(L:LogD):Prop:=Blk w gl 327 (bV g h L)
theorem LQ(w:Wd)(gl g h:Nat)(L:LogD)(k:WT w gl g h L):Wc 275 #[.pointer (some ⟨gl,0,none⟩)] w λe w'=>e = .returned (.int .i64 L.cnt)/\w'=w:=by
 have c8:w.cell? ⟨gl,8,none⟩=some (.int .i64 L.cnt):=(Blk.cell k 8).trans rfl;go_enter func275,ntmps275
 go_wp2_with fail
 go_ret;exact⟨rfl,rfl⟩
theorem GE(w:Wd)(gl g h:Nat)(L:LogD)(k:WT w gl g h L):Wc 274 #[.pointer (some ⟨gl,0,none⟩)] w λe w'=>e = .returned (.bool L.brk)/\w'=w:=by
 have c8:w.cell? ⟨gl,9,none⟩=some (.bool L.brk):=(Blk.cell k 9).trans rfl;go_enter func274,ntmps274
 go_wp2_with fail
 go_ret;exact⟨rfl,rfl⟩
end
section
open Go.RowKit
attribute [local irreducible] wpQuiet wpAnyH
def eP(d:DiskD)(f h:Nat):SSt:=gF (none,[]) ((d.sec.drop f).take h)
abbrev FSt:=Option (List cH)×LogD
def lD(k:Nat)(S:SSt)(p:FSt):FSt:=match S.1 with
 | none=>p
 | some g=>if p.1.isSome && decide (g<=p.2.gen) then p else (some S.2,{ p.2 with side:=k,gen:=g,cnt:=S.2.length })
def fAt(d:DiskD)(h:Nat)(L:LogD):Nat->FSt
 | 0=>(none,L)
 | k+1=>lD k (eP d (bA h k) h) (fAt d h L k)
theorem eU{w:Wd}{g:Nat}{t:TypeId}{old:Wa}{new:Wv}(j:Blk w g t old)(x:old.size=new.length):
  Blk (w.setCells g 0 new) g t new.toArray/\Off g w (w.setCells g 0 new)/\(w.setCells g 0 new).heap.size=w.heap.size:=by
 have h:=gD (t:=t) [] old.toList [] new (by simpa using j) (by simpa using x);simpa using h
theorem oF:∀ w,(binOp .neq 42 .nilIface .nilIface).run prog w = .ok (.bool false) w:=λw=>by kernel_rfl
theorem lV(st:SSt)(A:Option Addr)(n cap:Nat):∀ u∈(stC st (.slice A n cap)).toList,u.oneCell'=true:=λu j=>by
 simp only[stC,jl,j8,or_false] at j;rcases j with rfl|rfl|rfl <;> rfl
structure FR(w wr:Wd)(m:DiskM)(d:DiskD)(gl h:Nat)(p:FSt)(v:Value):Prop where
 dk:DK wr m d
 blk:Blk wr gl 327 (bV m.g h p.2)
 own:wr.ownsRow w.heap.size 172 33 v (p.1.getD []).length ((p.1.getD []).flatMap aN)
 ok:∀ q∈p.1.getD [],EntOk q
 fo:Fo [gl] w wr
theorem FR.keep{w wr j:Wd}{m:DiskM}{d:DiskD}{gl h:Nat}{p:FSt}{v:Value}(k:FR w wr m d gl h p v)(hb:Bw wr j):FR w j m d gl h p v:=
 ⟨k.dk.keep hb,k.blk.keep hb,aJ k.own hb,k.ok,k.fo.trans_same (Fo.of_below hb)⟩
theorem FR.put{w wr D I:Wd}{m:DiskM}{d:DiskD}{gl h:Nat}{p:FSt}{v vE:Value}(k:FR w wr m d gl h p v)(hb:Bw wr D)(J:List cH)(L:LogD)(ha:Apart m gl)(hg:gl<w.heap.size)
  (Z:D.ownsRow w.heap.size 172 33 vE J.length (J.flatMap aN)) (O:∀ q∈J,EntOk q) (hy:∀ j,j≠gl->I.heap[j]? = D.heap[j]?) (R:Blk I gl 327 (bV m.g h L)) (U:I.heap.size=D.heap.size) (x:I.os=D.os/\I.tape=D.tape/\I.output=D.output):
  FR w I m d gl h (some J,L) vE:=
 ⟨(k.dk.keep hb).offK hy (by omega) ha,R,aP Z (λb e=>hy b (by have:=(Z.lt b e).1;omega)),O,
  ⟨x.1.trans (hb.os.trans k.fo.os),x.2.1.trans (hb.tape.trans k.fo.tape),x.2.2.trans (hb.output.trans k.fo.output),by rw[U];exact jm k.fo.size hb.size,λj hj V=>by
   have K:j≠gl:=λe=>V (by simp[e])
   rw[hy j K,hb.block j (by have:=k.fo.size;omega)]
   exact k.fo.block j hj V⟩⟩
structure FX(w wx:Wd)(m:DiskM)(d:DiskD)(gl h:Nat)(p:FSt)(v:Value)(SS:SSt)(gS:Nat)(vE:Value):Prop where
 fr:FR w wx m d gl h p v
 st:Blk wx gS 392 (stC SS vE)
 own:wx.ownsRow w.heap.size 172 33 vE SS.2.length (SS.2.flatMap aN)
 ok:∀ q∈SS.2,EntOk q
theorem FR.cut{w R I:Wd}{m:DiskM}{d:DiskD}{gl h:Nat}{p:FSt}{v:Value}(k:FR w R m d gl h p v){SS:SSt}{D:Nat}{J:Value}(U:Blk I D 392 stZ)
  (x:Blk (I.setCells D 0 (stC SS J).toList) D 392 (stC SS J).toList.toArray/\Off D I (I.setCells D 0 (stC SS J).toList)/\(I.setCells D 0 (stC SS J).toList).heap.size=I.heap.size)
  (O:I.ownsRow R.heap.size 172 33 J SS.2.length (SS.2.flatMap aN)) (K:Bw R I) (a0:R.heap.size<=D) (V:∀ b,J.ownBlock=some b->b≠D) (Z:∀ q∈SS.2,EntOk q):
  FX w (I.setCells D 0 (stC SS J).toList) m d gl h p v SS D J:=
 have a1:=U.lt
 ⟨k.keep (K.trans ⟨x.2.1.os,x.2.1.tape,x.2.1.output,Nat.le_of_eq x.2.2.symm,λj hj=>x.2.1.block j (by have:=K.size;omega) (by omega)⟩),x.1,
  bE (aP O (λb e=>x.2.1.block b (O.lt b e).2 (V b e))) k.fo.size,Z⟩
theorem kJ{k:Nat}{S:SSt}{p:FSt}(h:S.1=none):lD k S p=p:=by unfold lD;rw[h]
theorem rK{k:Nat}{S:SSt}{p:FSt}{g:Nat}(h:S.1=some g)(j:p.1=none\/p.2.gen<g):lD k S p=(some S.2,{ p.2 with side:=k,gen:=g,cnt:=S.2.length }):=by
 unfold lD;rw[h];rcases j with j|j
 ·simp[j]
 ·have:¬g<=p.2.gen:=by omega
  simp[this]
theorem LR{k:Nat}{S:SSt}{p:FSt}{g:Nat}(h:S.1=some g){j:List cH}(x:p.1=some j)(hg:g<=p.2.gen):lD k S p=p:=by
 unfold lD;rw[h];simp[x,hg]
theorem oG:∀(L:List Wl) (st:SSt),(gF st L).2.length<=st.2.length+L.length
 | [],st=>by simp[gF]
 | s :: L,st=>by
  rw[gF];cases hq:kH st s with
  | none=>simp only;omega
  | some st'=>
   have:=oG L st';have j:=(K6 hq).1;simp only[List.length_cons];omega
theorem GF{w:Wd}{gl g h:Nat}{L:LogD}(x:Blk w gl 327 (bV g h L))(s j c:Nat):
  Blk (((w.setCell ⟨gl,5,none⟩ (.int .i64 s)).setCell ⟨gl,7,none⟩ (.int .u32 j)).setCell ⟨gl,8,none⟩ (.int .i64 c)) gl 327 (bV g h { L with side:=s,gen:=j,cnt:=c }):=by
 have h1:=((x.set_ 5 (.int .i64 s)).set_ 7 (.int .u32 j)).set_ 8 (.int .i64 c);exact h1
theorem PT(w:Wd)(m:DiskM)(d:DiskD)(gl h:Nat)(L:LogD)(hk:DK w m d)(hb:Blk w gl 327 (bV m.g h L))(ha:Apart m gl)(hd:d.down=false)(ho:d.opn=[])(hh:h+h<=d.sec.length):
  Wc 204 #[.pointer (some ⟨gl,0,none⟩)] w λe w'=>∃ v,e = .returned (.tuple #[v,.bool (fAt d h L 2).1.isSome,.nilIface])/\FR w w' m d gl h (fAt d h L 2) v:=by
 have n2:=hk.ok.few;have h8:=jz ha;have k0:=hb.lt;have h7:Hid (FR w w m d gl h (fAt d h L 0) (.slice none 0 0)):=jz ⟨hk,hb,World.ownsRow_nil _ _ _ _,λq hq=>by simp[fAt] at hq,Fo.refl⟩;have h9:Hid (∀ W f,DK W m d->f<=h->Wc 263 #[.pointer (some ⟨m.g,0,none⟩),.agg #[.int .i64 (f:Nat),.int .i64 h]] W λe w'=>Bw W w'/\∃ v,e = .returned (.tuple #[.agg (stC (eP d f h) v),.nilIface])/\w'.ownsRow W.heap.size 172 33 v (eP d f h).2.length ((eP d f h).2.flatMap aN)/\∀ q∈(eP d f h).2,EntOk q):=jz (λW f h5 hf=>by
  have h1:=K7 (f:Nat) h W m d h5 ⟨by omega,by omega⟩ (by omega)
  rw[vK hd ho h (f:Nat) (by omega) (by simp;omega),vL,Int.toNat_natCast] at h1
  exact h1)
 have k2:Hid (∀ f,(eP d f h).2.length<=h):=jz (λf=>by
  have:=oG ((d.sec.drop f).take h) (none,[])
  rw[jv] at this
  unfold eP
  simp at this
  omega)
 have k1:Hid (∀ k,fAt d h L (k+1)=lD k (eP d (bA h k) h) (fAt d h L k)):=jz (λk=>rfl);have m5:Hid ((fAt d h L 0).1=none):=jz rfl;have n6:prog.built 392 []=some stZ:=WQ;have n4:(h:Int)<=4096:=by omega
 clear hk hb hd ho ha;obtain⟨g9,h6⟩:=je m.g;have g2:Hid (m.g=g9):=jz h6.symm;have m4:Hid (Blk w gl 327 (bV g9 h L)):=jz (by rw[h6];exact h7.blk);have m6:Hid (w.rangeAt gl 1 [.int .i64 0,.int .i64 h,.int .i64 h,.int .i64 h]):=jz (λj u hj=>by
  rw[m4.cell]
  match j with
  | 0=>simpa [bV] using hj
  | 1=>simpa [bV] using hj
  | 2=>simpa [bV] using hj
  | 3=>simpa [bV] using hj
  | j+4=>simp at hj)
 rw[<- h6] at h9;clear h6;go_enter func204,ntmps204
 go_upto_region 3 with fail
 go_upto_region 4 with (refine ld 325 _ rfl rfl rfl m6 underlying325 rfl (by kernel_rfl) ?_)
 go_loopw [5,6,15] (λf v i wr=>∃ k:Nat,k<=2/\i = .int .i64 (k:Int)/\f = .bool (fAt d h L k).1.isSome/\Hid (FR w wr m d gl h (fAt d h L k) v)) (λ_ _ i _=>2-(intOf i).toNat)
 case atStart=>exact⟨0,by omega,rfl,rfl,h7⟩
 case round=>
  obtain⟨k,hk,rfl,rfl,HR⟩:=hrel;have n3:gl<wr.heap.size:=HR.blk.lt;have n0:k=0\/k=1\/k=2:=by omega
  rcases n0 with rfl|rfl|rfl
  ·obtain⟨p,hp⟩:=je (fAt d h L 0);obtain⟨SS,f1⟩:=je (eP d 0 h);have g1:Hid (SS.2.length<=h):=jz (by rw[f1];exact k2 _);have f3:Hid (fAt d h L 1=lD 0 SS p):=jz (by rw[f1,hp];exact k1 0);have f0:=jz (λW h5=>h9.out W 0 h5 (by omega));rw[<- f1] at f0;rw[<- hp] at HR ⊢;have HF:Hid (p.1=none):=jz (by rw[hp];exact m5);clear f1 hp;have g0:Hid (p.1.isSome=false):=jz (by rw[HF.out];rfl);rw[g0.out];have m1:∀ w,(Instr.index 325 (.agg #[.int .i64 0,.int .i64 h,.int .i64 h,.int .i64 h]) (.int .i64 0)).run prog w = .ok (.agg #[.int .i64 0,.int .i64 h]) w:=λw=>by kernel_rfl
   go_upto_region 6 with fail
   obtain⟨w2,b7⟩:=je (wr.alloc (.cells #[.int .i64 0,.int .i64 h] 324));have c7:Blk w2 wr.heap.size 324 #[.int .i64 0,.int .i64 h]:=by rw[b7];exact Blk.new _ _ _
   have f4:Bw wr w2:=by rw[b7];exact aG _ _
   rw[<- b7];clear b7;obtain⟨g8,f6⟩:=je wr.heap.size;rw[<- f6] at c7 ⊢;have f2:Hid (Blk w2 g8 324 #[.int .i64 0,.int .i64 h]):=jz c7;have h3:=jz (HR.keep f4);clear c7 f4 f6;go_cut [9,10] from 19 to 27 (λx y wx=>∃ K D I,x = .pointer (some ⟨K,0,none⟩)/\y = .nilIface/\Hid (FX w wx m d gl h p u6 SS K (.slice D SS.2.length I)))
   case first=>
    obtain⟨Z,a7⟩:=je w2.drew;have O:=jz (h3.keep (ji _ _).drew);rw[<- a7] at O;have g3:Hid (Blk Z gl 327 (bV g9 h p.2)):=jz (by rw[<- g2.out];exact O.blk);have c5:Hid (Blk Z g8 324 #[.int .i64 0,.int .i64 h]):=jz (by rw[a7];exact f2.keep (ji _ _).drew);refine kZ (n:=12) (λW=>Blk W gl 327 (bV g9 h p.2)/\Blk W g8 324 #[.int .i64 0,.int .i64 h]) (by rw[<- a7];exact⟨g3,c5⟩) (h:=λhH=>?_);rw[<- a7] at hH ⊢;clear a7;refine qM 0 (.pointer (some ⟨gl,0,none⟩)) ?_;refine qT 1 (.pointer (some ⟨gl,0,none⟩)) ?_;refine qT 2 (.pointer (some ⟨gl,0,none⟩)) ?_;refine qC 3 (v:=.pointer (some ⟨g9,0,none⟩)) (λ_ hX=>(hX.1.cell 0).trans rfl) ?_;refine qL 4 (cs:=[.int .i64 0,.int .i64 h]) (λ_ hX=>hX.2.range) (rfl) ?_;refine kCA 5 9 (some 25) (some 9) (zs:=stZ) vJ ((f0 Z O.dk).mono ?_) ⟨hH.1.alloc _,hH.2.alloc _⟩ ?_
    ·rintro e w6 ⟨b1,vE,rfl,d7,a5⟩;obtain⟨D,I,rfl,_⟩:=Sn.own d7;refine⟨_,rfl,⟨hH.1.keep b1,hH.2.keep b1⟩,λa8=>?_⟩;simp only[jq];refine qM 6 (.tuple #[.agg (stC SS (.slice D SS.2.length I)),.nilIface]) ?_;refine qT 7 (.agg (stC SS (.slice D SS.2.length I))) ?_;refine qT 8 (.nilIface) ?_;refine kA 9 (some 9) (zs:=stZ) vJ ⟨a8.1.alloc _,a8.2.alloc _⟩ (h:=?_);simp only[jq];obtain⟨w5,c3⟩:=je (w6.alloc (.cells stZ 392));obtain⟨K,V⟩:=je w6.heap.size;have U:Blk w5 K 392 stZ:=by rw[c3,V];exact Blk.new _ _ _
     have a0:Bw w6 w5:=by rw[c3];exact aG _ _
     have e8:=aJ d7 a0;have d0:Bw Z w5:=aA b1 a0;have d1:Z.heap.size<=K:=by rw[V];exact b1.size
     have d2:∀ b,(Value.slice D SS.2.length I).ownBlock=some b->b≠K:=λb e=>by have:=(d7.lt b e).2;omega
     have J:Blk w5 gl 327 (bV g9 h p.2)/\Blk w5 g8 324 #[.int .i64 0,.int .i64 h]:=⟨a8.1.keep a0,a8.2.keep a0⟩;rw[<- c3,<- V];clear c3 V;have R:=eU (new:=(stC SS (.slice D SS.2.length I)).toList) U (by rfl);have c9:Blk (w5.setCells K 0 (stC SS (.slice D SS.2.length I)).toList) gl 327 (bV g9 h p.2)/\Blk (w5.setCells K 0 (stC SS (.slice D SS.2.length I)).toList) g8 324 #[.int .i64 0,.int .i64 h]:=⟨(R.2.1.block _ J.1.lt (by have:=O.blk.lt;omega)).trans J.1,(R.2.1.block _ J.2.lt (by have:=c5.lt;omega)).trans J.2⟩;refine kR 10 none (off:=0) (n:=3) (cs:=(stC SS (.slice D SS.2.length I)).toList) (cA U (ja _)) rfl (lV _ _ _ _) c9 (h:=?_);simp only[jq];refine qT 11 (.nilIface) ?_;refine kE (h:=?_);go_wp2_with fail
     go_meet
     exact⟨K,D,I,rfl,rfl,jz (O.cut U R e8 d0 d1 d2 a5)⟩
    ·simp only[jq];obtain⟨w4,a6⟩:=je (Z.alloc (.cells stZ 392));obtain⟨K,V⟩:=je Z.heap.size;have h4:Blk w4 K 392 stZ:=by rw[a6,V];exact Blk.new _ _ _
     have a9:Bw Z w4:=by rw[a6];exact aG _ _
     have m3:w4.heap.size=Z.heap.size+1:=by rw[a6];simp
     rw[<- a6,<- V];clear a6;refine kF 5 (some 25) ((f0 w4 (O.dk.keep a9)).mono ?_);rintro e w5 ⟨b0,vE,rfl,d5,a5⟩;obtain⟨D,I,rfl,_⟩:=Sn.own d5;refine⟨_,rfl,⟨(hH.1.keep a9).keep b0,(hH.2.keep a9).keep b0⟩,λJ=>?_⟩;simp only[jq];have U:=h4.keep b0;have e8:=bE (base':=Z.heap.size) d5 (by omega);have d0:Bw Z w5:=aA a9 b0;have d1:Z.heap.size<=K:=by omega
     have d2:∀ b,(Value.slice D SS.2.length I).ownBlock=some b->b≠K:=λb e=>by have:=(d5.lt b e).1;omega
     refine qM 6 (.tuple #[.agg (stC SS (.slice D SS.2.length I)),.nilIface]) ?_;refine qT 7 (.agg (stC SS (.slice D SS.2.length I))) ?_;refine qT 8 (.nilIface) ?_;have R:=eU (new:=(stC SS (.slice D SS.2.length I)).toList) U (by rfl);have c9:Blk (w5.setCells K 0 (stC SS (.slice D SS.2.length I)).toList) gl 327 (bV g9 h p.2)/\Blk (w5.setCells K 0 (stC SS (.slice D SS.2.length I)).toList) g8 324 #[.int .i64 0,.int .i64 h]:=⟨(R.2.1.block _ J.1.lt (by have:=O.blk.lt;omega)).trans J.1,(R.2.1.block _ J.2.lt (by have:=c5.lt;omega)).trans J.2⟩;refine kR 10 none (off:=0) (n:=3) (cs:=(stC SS (.slice D SS.2.length I)).toList) (cA U (ja _)) rfl (lV _ _ _ _) c9 (h:=?_);simp only[jq];refine qT 11 (.nilIface) ?_;refine kE (h:=?_);go_wp2_with fail
     go_meet
     exact⟨K,D,I,rfl,rfl,jz (O.cut U R e8 d0 d1 d2 a5)⟩
   case rest=>
   obtain⟨K,D,I,rfl,rfl,HC⟩:=hcut;obtain⟨w6,f9⟩:=je wc;rw[<- f9] at HC ⊢;clear f9;have c6:Hid (Blk w6 K 392 (stC SS (.slice D SS.2.length I))):=jz HC.st;have h0:=jz HC.own;have h2:=jz HC.ok;have a3:=jz HC.fr;have k4:gl<w6.heap.size:=a3.blk.lt;have e0:=c6.cell 0;have e1:=c6.cell 1;have e2:=c6.cell 2;have a1:Hid (Blk w6 gl 327 (bV g9 h p.2)):=jz (by rw[<- g2.out];exact a3.blk);have l7:w6.cell? ⟨gl,7,none⟩=some (.int .u32 p.2.gen):=(a1.cell 7).trans rfl;have l5:w6.cell? ⟨gl,5,none⟩=some (.int .i64 p.2.side):=(a1.cell 5).trans rfl;have l8:w6.cell? ⟨gl,8,none⟩=some (.int .i64 p.2.cnt):=(a1.cell 8).trans rfl;have f5:=a1.frozen 5;have f7:=a1.frozen 7;have f8:=a1.frozen 8;simp only[stC,jf,jg,jh] at e0 e1 e2;have m2:=oF;have k3:=g1.out;clear HC;cases hso:SS.1 with
   | none=>
    rw[hso] at e0 e1;have c4:=jz hso;clear hso;simp only[Option.isSome_none] at e0;have a2:=jz (f3.trans (kJ (k:=0) c4));go_wp2_with fail
    go_quiet (fail)
    go_wp2_with fail
    refine⟨⟨1,by omega,rfl,by rw[a2.out,g0.out],?_⟩,by simp[intOf]⟩;rw[a2.out];exact jz (a3.keep (bY (ji _ _) nq))
   | some gN=>
    rw[hso] at e0 e1;have c4:Hid (SS.1=some gN):=jz hso;clear hso;simp only[Option.isSome_some,Option.getD_some] at e0 e1;have a2:=jz (f3.trans (rK (k:=0) c4 (.inl HF)));go_wp2_with fail
    go_quiet (fail)
    go_wp2_with fail
    refine⟨⟨1,by omega,rfl,by rw[a2.out];rfl,?_⟩,by simp[intOf]⟩;rw[a2.out];have a4:Bw w6 (w6.drewN nq):=bY (ji _ _) nq;exact jz (a3.put a4 SS.2 _ h8 k0 (aJ h0 a4) h2 (λj hj=>by rw[Below.heap_setCell _ ⟨gl,8,none⟩ _ j hj,Below.heap_setCell _ ⟨gl,7,none⟩ _ j hj,Below.heap_setCell _ ⟨gl,5,none⟩ _ j hj]) (by have:=GF (a3.blk.keep a4) 0 gN SS.2.length;exact this) (by simp) ⟨rfl,rfl,rfl⟩)
  ·obtain⟨p,hp⟩:=je (fAt d h L 1);obtain⟨SS,f1⟩:=je (eP d h h);have g1:Hid (SS.2.length<=h):=jz (by rw[f1];exact k2 _);have f3:Hid (fAt d h L 2=lD 1 SS p):=jz (by rw[f1,hp];exact k1 1);have f0:=jz (λW h5=>h9.out W h h5 (by omega));rw[<- f1] at f0;rw[<- hp] at HR ⊢;clear f1 hp;cases hp1:p.1 with
   | none=>
    have HF:Hid (p.1=none):=jz hp1;have g0:Hid (p.1.isSome=false):=jz (by rw[HF.out];rfl);clear hp1;simp only[Option.isSome_none];have m1:∀ w,(Instr.index 325 (.agg #[.int .i64 0,.int .i64 h,.int .i64 h,.int .i64 h]) (.int .i64 1)).run prog w = .ok (.agg #[.int .i64 h,.int .i64 h]) w:=λw=>by kernel_rfl
    go_upto_region 6 with fail
    obtain⟨w2,b7⟩:=je (wr.alloc (.cells #[.int .i64 h,.int .i64 h] 324));have c7:Blk w2 wr.heap.size 324 #[.int .i64 h,.int .i64 h]:=by rw[b7];exact Blk.new _ _ _
    have f4:Bw wr w2:=by rw[b7];exact aG _ _
    rw[<- b7];clear b7;obtain⟨g8,f6⟩:=je wr.heap.size;rw[<- f6] at c7 ⊢;have f2:Hid (Blk w2 g8 324 #[.int .i64 h,.int .i64 h]):=jz c7;have h3:=jz (HR.keep f4);clear c7 f4 f6;go_cut [9,10] from 19 to 27 (λx y wx=>∃ K D I,x = .pointer (some ⟨K,0,none⟩)/\y = .nilIface/\Hid (FX w wx m d gl h p u6 SS K (.slice D SS.2.length I)))
    case first=>
     obtain⟨Z,a7⟩:=je w2.drew;have O:=jz (h3.keep (ji _ _).drew);rw[<- a7] at O;have g3:Hid (Blk Z gl 327 (bV g9 h p.2)):=jz (by rw[<- g2.out];exact O.blk);have c5:Hid (Blk Z g8 324 #[.int .i64 h,.int .i64 h]):=jz (by rw[a7];exact f2.keep (ji _ _).drew);refine kZ (n:=12) (λW=>Blk W gl 327 (bV g9 h p.2)/\Blk W g8 324 #[.int .i64 h,.int .i64 h]) (by rw[<- a7];exact⟨g3,c5⟩) (h:=λhH=>?_);rw[<- a7] at hH ⊢;clear a7;refine qM 0 (.pointer (some ⟨gl,0,none⟩)) ?_;refine qT 1 (.pointer (some ⟨gl,0,none⟩)) ?_;refine qT 2 (.pointer (some ⟨gl,0,none⟩)) ?_;refine qC 3 (v:=.pointer (some ⟨g9,0,none⟩)) (λ_ hX=>(hX.1.cell 0).trans rfl) ?_;refine qL 4 (cs:=[.int .i64 h,.int .i64 h]) (λ_ hX=>hX.2.range) (rfl) ?_;refine kCA 5 9 (some 25) (some 9) (zs:=stZ) vJ ((f0 Z O.dk).mono ?_) ⟨hH.1.alloc _,hH.2.alloc _⟩ ?_
     ·rintro e w6 ⟨b1,vE,rfl,d7,a5⟩;obtain⟨D,I,rfl,_⟩:=Sn.own d7;refine⟨_,rfl,⟨hH.1.keep b1,hH.2.keep b1⟩,λa8=>?_⟩;simp only[jq];refine qM 6 (.tuple #[.agg (stC SS (.slice D SS.2.length I)),.nilIface]) ?_;refine qT 7 (.agg (stC SS (.slice D SS.2.length I))) ?_;refine qT 8 (.nilIface) ?_;refine kA 9 (some 9) (zs:=stZ) vJ ⟨a8.1.alloc _,a8.2.alloc _⟩ (h:=?_);simp only[jq];obtain⟨w5,c3⟩:=je (w6.alloc (.cells stZ 392));obtain⟨K,V⟩:=je w6.heap.size;have U:Blk w5 K 392 stZ:=by rw[c3,V];exact Blk.new _ _ _
      have a0:Bw w6 w5:=by rw[c3];exact aG _ _
      have e8:=aJ d7 a0;have d0:Bw Z w5:=aA b1 a0;have d1:Z.heap.size<=K:=by rw[V];exact b1.size
      have d2:∀ b,(Value.slice D SS.2.length I).ownBlock=some b->b≠K:=λb e=>by have:=(d7.lt b e).2;omega
      have J:Blk w5 gl 327 (bV g9 h p.2)/\Blk w5 g8 324 #[.int .i64 h,.int .i64 h]:=⟨a8.1.keep a0,a8.2.keep a0⟩;rw[<- c3,<- V];clear c3 V;have R:=eU (new:=(stC SS (.slice D SS.2.length I)).toList) U (by rfl);have c9:Blk (w5.setCells K 0 (stC SS (.slice D SS.2.length I)).toList) gl 327 (bV g9 h p.2)/\Blk (w5.setCells K 0 (stC SS (.slice D SS.2.length I)).toList) g8 324 #[.int .i64 h,.int .i64 h]:=⟨(R.2.1.block _ J.1.lt (by have:=O.blk.lt;omega)).trans J.1,(R.2.1.block _ J.2.lt (by have:=c5.lt;omega)).trans J.2⟩;refine kR 10 none (off:=0) (n:=3) (cs:=(stC SS (.slice D SS.2.length I)).toList) (cA U (ja _)) rfl (lV _ _ _ _) c9 (h:=?_);simp only[jq];refine qT 11 (.nilIface) ?_;refine kE (h:=?_);go_wp2_with fail
      go_meet
      exact⟨K,D,I,rfl,rfl,jz (O.cut U R e8 d0 d1 d2 a5)⟩
     ·simp only[jq];obtain⟨w4,a6⟩:=je (Z.alloc (.cells stZ 392));obtain⟨K,V⟩:=je Z.heap.size;have h4:Blk w4 K 392 stZ:=by rw[a6,V];exact Blk.new _ _ _
      have a9:Bw Z w4:=by rw[a6];exact aG _ _
      have m3:w4.heap.size=Z.heap.size+1:=by rw[a6];simp
      rw[<- a6,<- V];clear a6;refine kF 5 (some 25) ((f0 w4 (O.dk.keep a9)).mono ?_);rintro e w5 ⟨b0,vE,rfl,d5,a5⟩;obtain⟨D,I,rfl,_⟩:=Sn.own d5;refine⟨_,rfl,⟨(hH.1.keep a9).keep b0,(hH.2.keep a9).keep b0⟩,λJ=>?_⟩;simp only[jq];have U:=h4.keep b0;have e8:=bE (base':=Z.heap.size) d5 (by omega);have d0:Bw Z w5:=aA a9 b0;have d1:Z.heap.size<=K:=by omega
      have d2:∀ b,(Value.slice D SS.2.length I).ownBlock=some b->b≠K:=λb e=>by have:=(d5.lt b e).1;omega
      refine qM 6 (.tuple #[.agg (stC SS (.slice D SS.2.length I)),.nilIface]) ?_;refine qT 7 (.agg (stC SS (.slice D SS.2.length I))) ?_;refine qT 8 (.nilIface) ?_;have R:=eU (new:=(stC SS (.slice D SS.2.length I)).toList) U (by rfl);have c9:Blk (w5.setCells K 0 (stC SS (.slice D SS.2.length I)).toList) gl 327 (bV g9 h p.2)/\Blk (w5.setCells K 0 (stC SS (.slice D SS.2.length I)).toList) g8 324 #[.int .i64 h,.int .i64 h]:=⟨(R.2.1.block _ J.1.lt (by have:=O.blk.lt;omega)).trans J.1,(R.2.1.block _ J.2.lt (by have:=c5.lt;omega)).trans J.2⟩;refine kR 10 none (off:=0) (n:=3) (cs:=(stC SS (.slice D SS.2.length I)).toList) (cA U (ja _)) rfl (lV _ _ _ _) c9 (h:=?_);simp only[jq];refine qT 11 (.nilIface) ?_;refine kE (h:=?_);go_wp2_with fail
      go_meet
      exact⟨K,D,I,rfl,rfl,jz (O.cut U R e8 d0 d1 d2 a5)⟩
    case rest=>
    obtain⟨K,D,I,rfl,rfl,HC⟩:=hcut;obtain⟨w6,f9⟩:=je wc;rw[<- f9] at HC ⊢;clear f9;have c6:Hid (Blk w6 K 392 (stC SS (.slice D SS.2.length I))):=jz HC.st;have h0:=jz HC.own;have h2:=jz HC.ok;have a3:=jz HC.fr;have k4:gl<w6.heap.size:=a3.blk.lt;have e0:=c6.cell 0;have e1:=c6.cell 1;have e2:=c6.cell 2;have a1:Hid (Blk w6 gl 327 (bV g9 h p.2)):=jz (by rw[<- g2.out];exact a3.blk);have l7:w6.cell? ⟨gl,7,none⟩=some (.int .u32 p.2.gen):=(a1.cell 7).trans rfl;have l5:w6.cell? ⟨gl,5,none⟩=some (.int .i64 p.2.side):=(a1.cell 5).trans rfl;have l8:w6.cell? ⟨gl,8,none⟩=some (.int .i64 p.2.cnt):=(a1.cell 8).trans rfl;have f5:=a1.frozen 5;have f7:=a1.frozen 7;have f8:=a1.frozen 8;simp only[stC,jf,jg,jh] at e0 e1 e2;have m2:=oF;have k3:=g1.out;clear HC;cases hso:SS.1 with
    | none=>
     rw[hso] at e0 e1;have c4:=jz hso;clear hso;simp only[Option.isSome_none] at e0;have a2:=jz (f3.trans (kJ (k:=1) c4));go_wp2_with fail
     go_quiet (fail)
     go_wp2_with fail
     refine⟨⟨2,by omega,rfl,by rw[a2.out,g0.out],?_⟩,by simp[intOf]⟩;rw[a2.out];exact jz (a3.keep (bY (ji _ _) nq))
    | some gN=>
     rw[hso] at e0 e1;have c4:Hid (SS.1=some gN):=jz hso;clear hso;simp only[Option.isSome_some,Option.getD_some] at e0 e1;have a2:=jz (f3.trans (rK (k:=1) c4 (.inl HF)));go_wp2_with fail
     go_quiet (fail)
     go_wp2_with fail
     refine⟨⟨2,by omega,rfl,by rw[a2.out];rfl,?_⟩,by simp[intOf]⟩;rw[a2.out];have a4:Bw w6 (w6.drewN nq):=bY (ji _ _) nq;exact jz (a3.put a4 SS.2 _ h8 k0 (aJ h0 a4) h2 (λj hj=>by rw[Below.heap_setCell _ ⟨gl,8,none⟩ _ j hj,Below.heap_setCell _ ⟨gl,7,none⟩ _ j hj,Below.heap_setCell _ ⟨gl,5,none⟩ _ j hj]) (by have:=GF (a3.blk.keep a4) 1 gN SS.2.length;exact this) (by simp) ⟨rfl,rfl,rfl⟩)
   | some es=>
    have HF:Hid (p.1=some es):=jz hp1;have g0:Hid (p.1.isSome=true):=jz (by rw[HF.out];rfl);clear hp1;simp only[Option.isSome_some];have m1:∀ w,(Instr.index 325 (.agg #[.int .i64 0,.int .i64 h,.int .i64 h,.int .i64 h]) (.int .i64 1)).run prog w = .ok (.agg #[.int .i64 h,.int .i64 h]) w:=λw=>by kernel_rfl
    go_upto_region 6 with fail
    obtain⟨w2,b7⟩:=je (wr.alloc (.cells #[.int .i64 h,.int .i64 h] 324));have c7:Blk w2 wr.heap.size 324 #[.int .i64 h,.int .i64 h]:=by rw[b7];exact Blk.new _ _ _
    have f4:Bw wr w2:=by rw[b7];exact aG _ _
    rw[<- b7];clear b7;obtain⟨g8,f6⟩:=je wr.heap.size;rw[<- f6] at c7 ⊢;have f2:Hid (Blk w2 g8 324 #[.int .i64 h,.int .i64 h]):=jz c7;have h3:=jz (HR.keep f4);clear c7 f4 f6;go_cut [9,10] from 19 to 27 (λx y wx=>∃ K D I,x = .pointer (some ⟨K,0,none⟩)/\y = .nilIface/\Hid (FX w wx m d gl h p u6 SS K (.slice D SS.2.length I)))
    case first=>
     obtain⟨Z,a7⟩:=je w2.drew;have O:=jz (h3.keep (ji _ _).drew);rw[<- a7] at O;have g3:Hid (Blk Z gl 327 (bV g9 h p.2)):=jz (by rw[<- g2.out];exact O.blk);have c5:Hid (Blk Z g8 324 #[.int .i64 h,.int .i64 h]):=jz (by rw[a7];exact f2.keep (ji _ _).drew);refine kZ (n:=12) (λW=>Blk W gl 327 (bV g9 h p.2)/\Blk W g8 324 #[.int .i64 h,.int .i64 h]) (by rw[<- a7];exact⟨g3,c5⟩) (h:=λhH=>?_);rw[<- a7] at hH ⊢;clear a7;refine qM 0 (.pointer (some ⟨gl,0,none⟩)) ?_;refine qT 1 (.pointer (some ⟨gl,0,none⟩)) ?_;refine qT 2 (.pointer (some ⟨gl,0,none⟩)) ?_;refine qC 3 (v:=.pointer (some ⟨g9,0,none⟩)) (λ_ hX=>(hX.1.cell 0).trans rfl) ?_;refine qL 4 (cs:=[.int .i64 h,.int .i64 h]) (λ_ hX=>hX.2.range) (rfl) ?_;refine kCA 5 9 (some 25) (some 9) (zs:=stZ) vJ ((f0 Z O.dk).mono ?_) ⟨hH.1.alloc _,hH.2.alloc _⟩ ?_
     ·rintro e w6 ⟨b1,vE,rfl,d7,a5⟩;obtain⟨D,I,rfl,_⟩:=Sn.own d7;refine⟨_,rfl,⟨hH.1.keep b1,hH.2.keep b1⟩,λa8=>?_⟩;simp only[jq];refine qM 6 (.tuple #[.agg (stC SS (.slice D SS.2.length I)),.nilIface]) ?_;refine qT 7 (.agg (stC SS (.slice D SS.2.length I))) ?_;refine qT 8 (.nilIface) ?_;refine kA 9 (some 9) (zs:=stZ) vJ ⟨a8.1.alloc _,a8.2.alloc _⟩ (h:=?_);simp only[jq];obtain⟨w5,c3⟩:=je (w6.alloc (.cells stZ 392));obtain⟨K,V⟩:=je w6.heap.size;have U:Blk w5 K 392 stZ:=by rw[c3,V];exact Blk.new _ _ _
      have a0:Bw w6 w5:=by rw[c3];exact aG _ _
      have e8:=aJ d7 a0;have d0:Bw Z w5:=aA b1 a0;have d1:Z.heap.size<=K:=by rw[V];exact b1.size
      have d2:∀ b,(Value.slice D SS.2.length I).ownBlock=some b->b≠K:=λb e=>by have:=(d7.lt b e).2;omega
      have J:Blk w5 gl 327 (bV g9 h p.2)/\Blk w5 g8 324 #[.int .i64 h,.int .i64 h]:=⟨a8.1.keep a0,a8.2.keep a0⟩;rw[<- c3,<- V];clear c3 V;have R:=eU (new:=(stC SS (.slice D SS.2.length I)).toList) U (by rfl);have c9:Blk (w5.setCells K 0 (stC SS (.slice D SS.2.length I)).toList) gl 327 (bV g9 h p.2)/\Blk (w5.setCells K 0 (stC SS (.slice D SS.2.length I)).toList) g8 324 #[.int .i64 h,.int .i64 h]:=⟨(R.2.1.block _ J.1.lt (by have:=O.blk.lt;omega)).trans J.1,(R.2.1.block _ J.2.lt (by have:=c5.lt;omega)).trans J.2⟩;refine kR 10 none (off:=0) (n:=3) (cs:=(stC SS (.slice D SS.2.length I)).toList) (cA U (ja _)) rfl (lV _ _ _ _) c9 (h:=?_);simp only[jq];refine qT 11 (.nilIface) ?_;refine kE (h:=?_);go_wp2_with fail
      go_meet
      exact⟨K,D,I,rfl,rfl,jz (O.cut U R e8 d0 d1 d2 a5)⟩
     ·simp only[jq];obtain⟨w4,a6⟩:=je (Z.alloc (.cells stZ 392));obtain⟨K,V⟩:=je Z.heap.size;have h4:Blk w4 K 392 stZ:=by rw[a6,V];exact Blk.new _ _ _
      have a9:Bw Z w4:=by rw[a6];exact aG _ _
      have m3:w4.heap.size=Z.heap.size+1:=by rw[a6];simp
      rw[<- a6,<- V];clear a6;refine kF 5 (some 25) ((f0 w4 (O.dk.keep a9)).mono ?_);rintro e w5 ⟨b0,vE,rfl,d5,a5⟩;obtain⟨D,I,rfl,_⟩:=Sn.own d5;refine⟨_,rfl,⟨(hH.1.keep a9).keep b0,(hH.2.keep a9).keep b0⟩,λJ=>?_⟩;simp only[jq];have U:=h4.keep b0;have e8:=bE (base':=Z.heap.size) d5 (by omega);have d0:Bw Z w5:=aA a9 b0;have d1:Z.heap.size<=K:=by omega
      have d2:∀ b,(Value.slice D SS.2.length I).ownBlock=some b->b≠K:=λb e=>by have:=(d5.lt b e).1;omega
      refine qM 6 (.tuple #[.agg (stC SS (.slice D SS.2.length I)),.nilIface]) ?_;refine qT 7 (.agg (stC SS (.slice D SS.2.length I))) ?_;refine qT 8 (.nilIface) ?_;have R:=eU (new:=(stC SS (.slice D SS.2.length I)).toList) U (by rfl);have c9:Blk (w5.setCells K 0 (stC SS (.slice D SS.2.length I)).toList) gl 327 (bV g9 h p.2)/\Blk (w5.setCells K 0 (stC SS (.slice D SS.2.length I)).toList) g8 324 #[.int .i64 h,.int .i64 h]:=⟨(R.2.1.block _ J.1.lt (by have:=O.blk.lt;omega)).trans J.1,(R.2.1.block _ J.2.lt (by have:=c5.lt;omega)).trans J.2⟩;refine kR 10 none (off:=0) (n:=3) (cs:=(stC SS (.slice D SS.2.length I)).toList) (cA U (ja _)) rfl (lV _ _ _ _) c9 (h:=?_);simp only[jq];refine qT 11 (.nilIface) ?_;refine kE (h:=?_);go_wp2_with fail
      go_meet
      exact⟨K,D,I,rfl,rfl,jz (O.cut U R e8 d0 d1 d2 a5)⟩
    case rest=>
    obtain⟨K,D,I,rfl,rfl,HC⟩:=hcut;obtain⟨w6,f9⟩:=je wc;rw[<- f9] at HC ⊢;clear f9;have c6:Hid (Blk w6 K 392 (stC SS (.slice D SS.2.length I))):=jz HC.st;have h0:=jz HC.own;have h2:=jz HC.ok;have a3:=jz HC.fr;have k4:gl<w6.heap.size:=a3.blk.lt;have e0:=c6.cell 0;have e1:=c6.cell 1;have e2:=c6.cell 2;have a1:Hid (Blk w6 gl 327 (bV g9 h p.2)):=jz (by rw[<- g2.out];exact a3.blk);have l7:w6.cell? ⟨gl,7,none⟩=some (.int .u32 p.2.gen):=(a1.cell 7).trans rfl;have l5:w6.cell? ⟨gl,5,none⟩=some (.int .i64 p.2.side):=(a1.cell 5).trans rfl;have l8:w6.cell? ⟨gl,8,none⟩=some (.int .i64 p.2.cnt):=(a1.cell 8).trans rfl;have f5:=a1.frozen 5;have f7:=a1.frozen 7;have f8:=a1.frozen 8;simp only[stC,jf,jg,jh] at e0 e1 e2;have m2:=oF;have k3:=g1.out;clear HC;cases hso:SS.1 with
    | none=>
     rw[hso] at e0 e1;have c4:=jz hso;clear hso;simp only[Option.isSome_none] at e0;have a2:=jz (f3.trans (kJ (k:=1) c4));go_wp2_with fail
     go_quiet (fail)
     go_wp2_with fail
     refine⟨⟨2,by omega,rfl,by rw[a2.out,g0.out],?_⟩,by simp[intOf]⟩;rw[a2.out];exact jz (a3.keep (bY (ji _ _) nq))
    | some gN=>
     rw[hso] at e0 e1;have c4:Hid (SS.1=some gN):=jz hso;clear hso;simp only[Option.isSome_some,Option.getD_some] at e0 e1;rcases jo p.2.gen gN with m9|n1
     ·have m8:(p.2.gen:Int)<gN:=by omega
      have a2:=jz (f3.trans (rK (k:=1) c4 (.inr m9)));go_wp2_with fail
      go_quiet (fail)
      go_wp2_with fail
      refine⟨⟨2,by omega,rfl,by rw[a2.out];rfl,?_⟩,by simp[intOf]⟩;rw[a2.out];have a4:Bw w6 (w6.drewN nq):=bY (ji _ _) nq;exact jz (a3.put a4 SS.2 _ h8 k0 (aJ h0 a4) h2 (λj hj=>by rw[Below.heap_setCell _ ⟨gl,8,none⟩ _ j hj,Below.heap_setCell _ ⟨gl,7,none⟩ _ j hj,Below.heap_setCell _ ⟨gl,5,none⟩ _ j hj]) (by have:=GF (a3.blk.keep a4) 1 gN SS.2.length;exact this) (by simp) ⟨rfl,rfl,rfl⟩)
     ·have m8:(gN:Int)<=p.2.gen:=by omega
      have a2:=jz (f3.trans (LR (k:=1) c4 HF n1));go_wp2_with fail
      go_quiet (fail)
      go_wp2_with fail
      refine⟨⟨2,by omega,rfl,by rw[a2.out,g0.out],?_⟩,by simp[intOf]⟩;rw[a2.out];exact jz (a3.keep (bY (ji _ _) nq))
  ·go_wp2_with fail
   refine bodyPost_ret (results_tmp3 rfl _ _ _) rfl ?_;exact⟨_,rfl,HR⟩
def xS(d:DiskD)(h:Nat)(L:LogD)(q:cH):Ans:=if L.brk then some (11,none) else mT d (bA h L.side) h ((L.cnt+1:Nat):Int) L.gen q
def rL(d:DiskD)(h:Nat)(L:LogD)(q:cH):DiskD:=if L.brk then d else oN d (bA h L.side) h ((L.cnt+1:Nat):Int) L.gen q
def YS(L:LogD):Ans->LogD
 | none=>{ L with cnt:=L.cnt+1 }
 | some x=>oV L x.1
def AV(d:DiskD)(h:Nat)(L:LogD)(q:cH):LogD:=if L.brk then L else YS L (mT d (bA h L.side) h ((L.cnt+1:Nat):Int) L.gen q)
theorem y9(d:DiskD)(a:Int)(s:Wl):(jV d a s).sec.length=d.sec.length:=by
 unfold jV;split <;> rfl
theorem mH(d:DiskD)(a:Int)(s:Wl):(bG d a s).sec.length=d.sec.length:=by
 unfold bG;split
 ·rfl
 ·split
  ·exact(jU _ _ _).trans (y9 (aW d) a s)
  ·split
   ·rfl
   ·exact y9 (aW d) a s
theorem eV(d:DiskD):(cG d).sec.length=d.sec.length:=by
 unfold cG;split
 ·rfl
 ·split
  ·exact jU _ _ _
  ·split
   ·rfl
   ·exact n7 _ _ _
theorem mI(d:DiskD)(a:Int)(s:Wl):(wsD d a s).sec.length=d.sec.length:=by
 unfold wsD;split
 ·exact mH _ _ _
 ·exact(eV _).trans (mH _ _ _)
theorem zA:∀(l:List Wl) (d:DiskD) (a:Int),(iX d a l).2.sec.length=d.sec.length
 | [],d,_=>eV d
 | s :: l,d,a=>by
  unfold iX;split
  ·exact mH _ _ _
  ·exact(zA l _ _).trans (mH _ _ _)
theorem rM(d:DiskD)(f z:Int)(g:Nat)(l:List cH):(dE d f z g l).2.sec.length=d.sec.length:=by
 unfold dE;split
 ·rfl
 ·split
  ·exact zA _ _ _
  ·rfl
theorem GG{h s:Nat}(j:h<=4096):0<=(bA h s:Int)/\(bA h s:Int)<=100000:=by
 unfold bA;split <;> omega
theorem LogOk.h_le{w:Wd}{m:DiskM}{d:DiskD}{gl h:Nat}{L:LogD}(k:LK w m d gl h L):h<=4096:=by
 have:=k.ok.half;have:=k.dk.ok.few;omega
theorem DQ(d:DiskD)(f z p:Int)(g:Nat)(q:cH):(oN d f z p g q).sec.length=d.sec.length:=by
 unfold oN;split
 ·rfl
 ·split
  ·rfl
  ·split
   ·exact mI _ _ _
   ·rfl
theorem UA{d:DiskD}{f z p:Int}{g:Nat}{q:cH}(h:mT d f z p g q=none):1<=p/\p<=room z:=by
 unfold mT at h;split at h
 ·cases h
 ·split at h
  ·cases h
  ·omega
theorem vU(q:cH)(w:Wd)(m:DiskM)(d:DiskD)(gl h:Nat)(L:LogD)(k:LK w m d gl h L)(hq:EntOk q)(hr:d.room+3<=100000):
  Wc 214 #[.pointer (some ⟨gl,0,none⟩),.agg (aN q).toArray] w λe w'=>e = .returned (bK (xS d h L q))/\∃ m',LK w' m' (rL d h L q) gl h (AV d h L q)/\LT gl w m w' m':=by
 have hh:=LogOk.h_le k;have HK:=jz k;have HQ:=jz hq;have f5:=aZ q hq;obtain⟨w1,j⟩:=je (w.alloc (.cells (aN q).toArray 172));have d1:Hid (Blk w1 w.heap.size 172 (aN q).toArray):=jz (by rw[j];exact Blk.new _ _ _);have a4:Hid (Bw w w1):=jz (by rw[j];exact aG _ _);have K:=jz (HK.keep a4);obtain⟨c0,c5,c6,c7,c8,c9⟩:=K.cells;clear k hq;cases hb:L.brk with
 | true=>
  have V:Hid (xS d h L q=some (11,none)/\rL d h L q=d/\AV d h L q=L):=jz (by unfold xS rL AV;rw[hb];exact⟨rfl,rfl,rfl⟩);rw[hb] at c9;clear hb;go_enter func214,ntmps214
  go_upto_region 1 with fail
  rw[<- j];clear j;go_wp2_with fail
  go_ret;exact⟨by rw[V.out.1];rfl,m,by rw[V.out.2.1,V.out.2.2];exact K,LT.of_below a4⟩
 | false=>
  obtain⟨pa,a1⟩:=je (mT d (bA h L.side) h ((L.cnt+1:Nat):Int) L.gen q);obtain⟨pd,a2⟩:=je (oN d (bA h L.side) h ((L.cnt+1:Nat):Int) L.gen q);have V:Hid (xS d h L q=pa/\rL d h L q=pd/\AV d h L q=YS L pa):=jz (by unfold xS rL AV;rw[hb,a1,a2];exact⟨rfl,rfl,rfl⟩);rw[hb] at c9;have f6:=GG (s:=L.side) hh;have g1:(L.cnt:Int)<=10000:=by have:=HK.ok.cnt;omega
  have HP:=jz (λW M (kk:LK W M d gl h L)=>O3 (bA h L.side) h ((L.cnt+1:Nat):Int) L.gen q W M d kk.dk f6 ⟨⟨by omega,by omega⟩,by omega⟩ ⟨by omega,by omega⟩ HK.ok.gen HQ hr);rw[<- a1,<- a2] at HP;have e8:Hid (pd.sec.length=d.sec.length):=jz (by rw[a2];exact DQ _ _ _ _ _ _);have HLE:Hid (pa=none->L.cnt+1<=10000):=jz (λe=>by
   rw[a1] at e
   have:=(UA e).2
   unfold room at this
   split at this <;> omega)
  clear hb a1 a2;obtain⟨g9,Z⟩:=je m.g;rw[<- Z] at c0;have d5:Hid (m.g=g9):=jz Z.symm;have b7:L.side<2:=HK.ok.side;have a8:Hid (∀ W,Blk W gl 327 (bV g9 h L)->W.rangeAt gl (1+L.side*2) [.int .i64 (bA h L.side),.int .i64 h]):=jz (λW hk=>p7 hk L.side b7);have c4:Hid (Blk w1 gl 327 (bV g9 h L)):=jz (by rw[Z];exact K.blk);obtain⟨sd,R⟩:=je L.side;obtain⟨sf,a6⟩:=je (bA h L.side);obtain⟨ct,a5⟩:=je L.cnt;have HC:Hid (∀ W,Blk W gl 327 (bV g9 h L)->W.cell? ⟨gl,0,none⟩=some (.pointer (some ⟨g9,0,none⟩))/\W.cell? ⟨gl,5,none⟩=some (.int .i64 sd)/\W.cell? ⟨gl,7,none⟩=some (.int .u32 L.gen)/\W.cell? ⟨gl,8,none⟩=some (.int .i64 ct)):=jz (λW hk=>by rw[R,a5];exact⟨(hk.cell 0).trans rfl,(hk.cell 5).trans rfl,(hk.cell 7).trans rfl,(hk.cell 8).trans rfl⟩);rw[<- a6,<- R] at a8;have f2:Hid (bA h L.side=sf):=jz a6.symm;have d0:Hid (L.cnt=ct):=jz a5.symm;have f7:(ct:Int)<=10000:=by omega
  have f9:(sd:Int)<2:=by omega
  have g0:(0:Int)<=sd:=by omega
  have f1:Hid (((ct+1:Nat):Int)=(ct:Int)+1):=jz (by omega);clear R a6 Z c5 c6 c7 c8 b7 a5;go_enter func214,ntmps214
  go_upto_region 1 with fail
  rw[<- j];clear j;go_upto_region 5 with fail
  clear c0 c9;obtain⟨gb,a0⟩:=je w.heap.size;have d2:Hid (Blk w1 gb 172 (aN q).toArray):=jz (by rw[a0];exact d1);have d7:Hid (gb ∉ aX m):=jz (by rw[a0];exact HK.dk.notFoot (ja _));rw[<- a0];clear a0;obtain⟨wS,a3⟩:=je w1.drew;have I:Hid (Bw w1 wS):=jz (by rw[a3];exact(ji _ _).drew);have e1:=jz (K.keep I);have D:Hid (Blk wS gl 327 (bV g9 h L)):=jz (c4.keep I);have J:Hid (Blk wS gb 172 (aN q).toArray):=jz (d2.keep I);have c3:=jz HK.ap;have f0:Hid (gb ∉ aX m):=jz d7.out;have a7:=jz (HP wS m e1);rw[d5.out,f2.out,d0.out,f1.out] at a7;refine kZ (n:=25) (λW=>(Blk W gl 327 (bV g9 h L)/\Blk W gb 172 (aN q).toArray)) (by rw[<- a3];exact⟨D,J⟩) (h:=λhH=>?_);rw[<- a3] at hH ⊢;clear a3;refine qM 0 (.pointer (some ⟨gl,0,none⟩)) ?_;refine qT 1 (.pointer (some ⟨gl,0,none⟩)) ?_;refine qT 2 (.pointer (some ⟨gl,0,none⟩)) ?_;refine qC 3 (v:=.pointer (some ⟨g9,0,none⟩)) (λ_ O=>(HC _ O.1).1) ?_;refine qM 4 (.pointer (some ⟨gl,0,none⟩)) ?_;refine qM 5 (.pointer (some ⟨gl,0,none⟩)) ?_;refine qT 6 (.pointer (some ⟨gl,0,none⟩)) ?_;refine qT 7 (.pointer (some ⟨gl,5,none⟩)) ?_;refine qC 8 (v:=.int .i64 sd) (λ_ O=>(HC _ O.1).2.1) ?_;refine qT 9 (.pointer (some ⟨gl,0,none⟩)) ?_;refine qT 10 (.pointer (some ⟨gl,1,none⟩)) ?_;refine qT 11 (.pointer (some ⟨gl,1+sd*2,none⟩)) ?_;refine qL 12 (cs:=[.int .i64 sf,.int .i64 h]) (λ_ O=>a8.out _ O.1) (rfl) ?_;refine qM 13 (.pointer (some ⟨gl,0,none⟩)) ?_;refine qT 14 (.pointer (some ⟨gl,0,none⟩)) ?_;refine qT 15 (.pointer (some ⟨gl,8,none⟩)) ?_;refine qC 16 (v:=.int .i64 ct) (λ_ O=>(HC _ O.1).2.2.2) ?_;refine qM 18 (.pointer (some ⟨gl,0,none⟩)) ?_;refine qT 19 (.pointer (some ⟨gl,0,none⟩)) ?_;refine qT 20 (.pointer (some ⟨gl,7,none⟩)) ?_;refine qC 21 (v:=.int .u32 L.gen) (λ_ O=>(HC _ O.1).2.2.1) ?_;refine qL 22 (cs:=aN q) (λ_ O=>O.2.range) (f5) ?_;refine qT 17 (.int .i64 (ct+1)) ?_ (hy:=λW hW=>by unfold execOp;go_simp;exact IntWalk.i64_in _ (by omega));refine kF 23 (some 37) (a7.mono ?_);rintro e w5 ⟨rfl,m5,b0,U⟩;refine⟨_,rfl,⟨(U.off D.lt c3.out.1).trans D,(U.off J.lt f0).trans J⟩,λhH=>?_⟩;simp only[jq];refine qT 24 (bK pa) ?_;refine kE (h:=?_);have HKX:Hid (LK w5 m5 pd gl h L):=jz ((K.keep I).disk b0 U e8);have a9:Hid (LT gl w m w5 m5):=jz ((LT.of_below (aA a4 I)).trans (LT.of_dt U));clear b0 U;cases pa with
  | some x=>
   obtain⟨t,u,hv⟩:=bU x;have HN:=jz (vT (some x) w5 m5 pd gl h L HKX);have f4:=jz hv;rw[hv] at HN ⊢;have g2:=cV t u;clear hv;go_wp2_with fail
   refine HN.mono ?_;rintro e w6 ⟨rfl,b1,c2⟩;have e0:=jz b1;have f3:=jz (a9.trans c2);clear b1 c2;go_wp2_with fail
   go_ret;exact⟨by rw[V.out.1,f4.out];rfl,m5,by rw[V.out.2.1,V.out.2.2];exact e0,f3⟩
  | none=>
   obtain⟨c0,c5,c6,c7,c8,c9⟩:=HKX.cells;have f8:=HKX.blk.frozen 8;have hv:bK none = .nilIface:=rfl;have g3:∀ w,(binOp .neq 42 .nilIface .nilIface).run prog w = .ok (.bool false) w:=λw=>by kernel_rfl
   rw[hv];clear hv;go_wp2_with fail
   go_ret;refine⟨by rw[V.out.1];rfl,m5,?_,a9.set 8 _⟩;rw[V.out.2.1,V.out.2.2];exact HKX.set 8 _ (by rfl) ⟨HKX.ok.side,HKX.ok.last,HKX.ok.gen,HLE (by simp),HKX.ok.half⟩
theorem PU(w:Wd)(gl g h:Nat)(L:LogD)(k:WT w gl g h L)(hs:L.side<2)(hh:h<=4096):Wc 276 #[.pointer (some ⟨gl,0,none⟩)] w (Rt w (.int .i64 (h-1:Nat))):=by
 have HB:Hid (Blk w gl 327 (bV g h L)):=jz k;have I:Hid (∀ W,Blk W gl 327 (bV g h L)->W.rangeAt gl (1+L.side*2) [.int .i64 (bA h L.side),.int .i64 h]):=jz (λW hk=>p7 hk L.side hs);obtain⟨O,j⟩:=je L.side;obtain⟨sf,K⟩:=je (bA h L.side);have HC:Hid (∀ W,Blk W gl 327 (bV g h L)->W.cell? ⟨gl,5,none⟩=some (.int .i64 O)):=jz (λW hk=>by rw[j];exact(hk.cell 5).trans rfl);rw[<- K,<- j] at I;have a0:(O:Int)<2:=by omega
 have a1:(0:Int)<=O:=by omega
 have U:Hid (room (h:Int)=((h-1:Nat):Int)):=jz (by unfold room;split <;> omega);have HP:=jz (λW=>qZ sf h W ⟨by omega,by omega⟩);rw[U.out] at HP;clear j K hs k;go_enter func276,ntmps276
 go_upto_region 3 with fail
 obtain⟨wS,x⟩:=je w.drew;have D:Hid (Bw w wS):=jz (by rw[x];exact(ji _ _).drew);refine kZ (n:=11) (λW=>Blk W gl 327 (bV g h L)) (by rw[<- x];exact HB.keep D) (h:=λV=>?_);rw[<- x] at V ⊢;clear x;refine qM 0 (.pointer (some ⟨gl,0,none⟩)) ?_;refine qM 1 (.pointer (some ⟨gl,0,none⟩)) ?_;refine qT 2 (.pointer (some ⟨gl,0,none⟩)) ?_;refine qT 3 (.pointer (some ⟨gl,5,none⟩)) ?_;refine qC 4 (v:=.int .i64 O) (λ_ Z=>HC.out _ Z) ?_;refine qT 5 (.pointer (some ⟨gl,0,none⟩)) ?_;refine qT 6 (.pointer (some ⟨gl,1,none⟩)) ?_;refine qT 7 (.pointer (some ⟨gl,1+O*2,none⟩)) ?_;refine qL 8 (cs:=[.int .i64 sf,.int .i64 h]) (λ_ Z=>I.out _ Z) (rfl) ?_;refine kF 9 (some 14) ((HP wS).mono ?_);rintro e w5 ⟨rfl,J⟩;have R:=jz J;refine⟨_,rfl,V.keep J,λV=>?_⟩;simp only[jq];refine kT 10 (some 2) (.int .i64 (h-1:Nat)) (h:=?_);simp only[jq];refine kE (h:=?_);go_wp2_with fail
 go_ret;exact⟨by kernel_rfl,aA D R⟩
def k7(s:Wl):Nat:=beN ((s.drop 60).take 4)
def cI(d:DiskD):Nat->Nat
 | 0=>0
 | k+1=>max (cI d k) (k7 (rdS d k))
theorem tP{s:Wl}(h:Sec s):k7 s<4294967296:=by
 have:=mX ((s.drop 60).take 4) (λc j=>h.2 c (List.mem_of_mem_drop (j7 j)));rw[jv,List.length_drop,h.1] at this;exact this
theorem vV{d:DiskD}(h:DOk d):∀ k,cI d k<4294967296
 | 0=>by unfold cI;omega
 | k+1=>by
  have h1:=vV h k;have j:=tP (tN h k);unfold cI;omega
structure LJ(d:DiskD)(g n:Nat)(w:Wd)(a':Act)(w':Wd):Prop where
 ex:∃(k x:Nat) (u6 u7 u8 u9 u10 u11 u12 u13 u14 u15 u16 u17 u18 u19 u20 u21 u22 u23 u24 u25 u26 u27 u28 u29 u30:Value),a'={ tmps:=#[.pointer (some ⟨g,0,none⟩),undef,.int .u32 0,.nilIface,.int .u32 (x:Int),.int .i64 (k:Int),u6,u7,u8,u9,u10,u11,u12,u13,u14,u15,u16,u17,u18,u19,u20,u21,u22,u23,u24,u25,u26,u27,u28,u29,u30],defers:=[] }/\k<=n/\Hid ((x:Int)=(cI d k:Nat))/\Hid (Bw w w')
theorem s8(w:Wd)(m:DiskM)(d:DiskD)(h:DK w m d)(hd:d.down=false):
  Wc 203 #[.pointer (some ⟨m.g,0,none⟩)] w (Rt w (.tuple #[.int .u32 (cI d d.sec.length),.nilIface])):=by
 have HK:=jz h;have hn:(d.sec.length:Int)<=4096:=by have:=h.ok.few;omega
 have a7:=jz (λW (hb:Bw w W)=>y7 W m d (HK.keep hb));have b1:=jz (λW (hb:Bw w W) (a:Int) (ha:aD a)=>x7 a W m d (HK.keep hb) ha);have HE:Hid (∀ k:Nat,k<d.sec.length->rdE d k = .nilIface):=jz (λk hk=>by unfold rdE jJ;rw[hd];simp;omega);obtain⟨g,hg⟩:=je m.g;rw[<- hg] at a7 b1 ⊢;obtain⟨n,d0⟩:=je d.sec.length;rw[<- d0] at a7 HE hn ⊢;have a8:Hid (∀ k:Nat,Sec (rdS d k)):=jz (λk=>tN HK.ok k);have d2:Hid (∀ k,cI d k<4294967296):=jz (vV HK.ok);have d1:z64.size=64:=cS;clear h hd hg d0;go_enter func203,ntmps203
 go_wp2_with fail
 refine wp_scope_jumps 0 (LJ d g n w) (λa' _=>n-(intOf (a'.tmps.getD 5 undef)).toNat) rfl ?_ ?_
 ·have HB:Hid (Bw w w):=jz (ji _ _);have HX:Hid ((0:Int)=(cI d 0:Nat)):=jz rfl;go_wp2_with fail
  go_step3
  go_wp2_with fail
  refine(a7 w HB).mono ?_;rintro e w2 ⟨rfl,a6⟩;rw[a6];clear a6 w2;rcases jo 0 n with c5|d7
  ·have c3:((0:Int):Int)<n:=by omega
   have HR:=b1.out w HB (0:Int) ⟨by omega,by omega⟩;have J:=a8.out 0;have U:=HE.out 0 c5;obtain⟨s,hs⟩:=je (rdS d (0:Int));have HS:Hid (s=rdS d (0:Nat)):=jz hs;have j:Sec s:=by rw[HS.out];exact J
   have I:rdE d (0:Int) = .nilIface:=U;rw[I,<- hs] at HR;have D:Hid (64=(u8s s).toArray.size/\(u8s s).toArray.all (·.oneCell')=true/\(prog.info? 243).map (·.size)=some (u8s s).toArray.size):=jz ⟨by simp[aF j],dI s,by simp only[js,aF j];kernel_rfl⟩;have Z:=jz j;have V:=jz HR;obtain⟨T,hT⟩:=je (k7 s);have c2:Hid (T<4294967296):=jz (by rw[hT];exact tP j);have a0:=jz (λW=>y8 s W Z.out.1 Z.out.2);have HT:Hid (T=k7 s):=jz hT;have a2:beN ((s.drop 60).take 4)=T:=hT.symm;rw[a2] at a0;clear hs j J U I HR hT a2;go_upto_region 5 with (first
    | (go_at_call 261;refine V.mono ?_;rintro e w3 ⟨rfl,a3⟩)
    | (refine al 243 z64 rfl rfl dG ?_)
    | (refine bZ 243 (.tmp 6) (.tmp 17) rfl rfl rfl rfl D.out.2.2 (by rw[d1];exact D.out.1) D.out.2.1 ?_;intro w4 a1 a4 c6))
   obtain⟨gs,O⟩:=je w3.heap.size;have b0:Hid (Blk w4 gs 243 (u8s s).toArray):=jz (by rw[O];exact a1);have a9:Hid (Bw w w4):=jz (aA (aA HB a3) a4);rw[<- O];have b7:Hid (w4.rangeAt gs 0 (u8s s)):=jz (by have h:=b0.range;rwa [jt] at h);have c7:IntKind.i64.wrap ((0:Int)+1)=((0+1:Nat):Int):=by rw[IntWalk.i64_in _ (by omega)];omega
   clear a1 a4 c6 a3 O V;have e1:(0:Int)+1<=9223372036854775807:=by omega
   have d5:(T:Int)<=4294967295:=by have:=c2.out;omega
   go_upto_region 9 with (first
    | (refine ld 243 _ rfl rfl rfl b7 underlying243 rfl (by simpa using D.out.2.2) ?_)
    | (go_at_call 262;refine(a0 w4).mono ?_;rintro e w5 ⟨rfl,a5⟩))
   have R:Hid (Bw w w5):=jz (aA a9 a5);clear a5;rcases Int.lt_or_le (0:Int) (T:Int) with e0|c9
   ·have K:Hid ((T:Int)=(cI d (0+1):Nat)):=jz (by
     have h2:k7 (rdS d ((0:Nat):Int))=T:=by rw[HT.out,HS.out]
     have h1:cI d (0+1)=max (cI d 0) T:=by rw[<- h2];rfl
     rw[h1]
     have:=HX.out
     omega)
    go_wp2_with fail
    go_step3
    refine⟨rfl,⟨0+1,(cI d (0+1)),_,_,_,_,_,_,_,_,_,_,_,_,_,_,_,_,_,_,_,_,_,_,_,_,_,by rw[<- K.out];rfl,by omega,jz rfl,R⟩⟩
   ·have K:Hid ((0:Int)=(cI d (0+1):Nat)):=jz (by
     have h2:k7 (rdS d ((0:Nat):Int))=T:=by rw[HT.out,HS.out]
     have h1:cI d (0+1)=max (cI d 0) T:=by rw[<- h2];rfl
     rw[h1]
     have:=HX.out
     omega)
    go_wp2_with fail
    go_step3
    refine⟨rfl,⟨0+1,(cI d (0+1)),_,_,_,_,_,_,_,_,_,_,_,_,_,_,_,_,_,_,_,_,_,_,_,_,_,by rw[<- K.out];rfl,by omega,jz rfl,R⟩⟩
  ·have c3:(n:Int)<=(0:Int):=by omega
   go_wp2_with fail
   simp only[Exit.jump];refine bodyPost_ret (results_tmp2 rfl _ _ _) rfl ?_;have c4:n=0:=by omega
   exact⟨by rw[c4,<- HX.out];rfl,HB⟩
 ·rintro a' wr ⟨k,x,u6,u7,u8,u9,u10,u11,u12,u13,u14,u15,u16,u17,u18,u19,u20,u21,u22,u23,u24,u25,u26,u27,u28,u29,u30,rfl,hk,HX,HB⟩;have f1:(x:Int)<=4294967295:=by have:=HX.out;have:=d2.out k;omega
  have e8:(0:Int)<=k:=by omega
  have f0:(k:Int)<=n:=by omega
  go_wp2_with fail
  refine(a7 wr HB).mono ?_;rintro e w2 ⟨rfl,a6⟩;rw[a6];clear a6 w2;rcases jo k n with c5|d7
  ·have c3:((k:Int):Int)<n:=by omega
   have HR:=b1.out wr HB (k:Int) ⟨by omega,by omega⟩;have J:=a8.out k;have U:=HE.out k c5;obtain⟨s,hs⟩:=je (rdS d (k:Int));have HS:Hid (s=rdS d (k:Nat)):=jz hs;have j:Sec s:=by rw[HS.out];exact J
   have I:rdE d (k:Int) = .nilIface:=U;rw[I,<- hs] at HR;have D:Hid (64=(u8s s).toArray.size/\(u8s s).toArray.all (·.oneCell')=true/\(prog.info? 243).map (·.size)=some (u8s s).toArray.size):=jz ⟨by simp[aF j],dI s,by simp only[js,aF j];kernel_rfl⟩;have Z:=jz j;have V:=jz HR;obtain⟨T,hT⟩:=je (k7 s);have c2:Hid (T<4294967296):=jz (by rw[hT];exact tP j);have a0:=jz (λW=>y8 s W Z.out.1 Z.out.2);have HT:Hid (T=k7 s):=jz hT;have a2:beN ((s.drop 60).take 4)=T:=hT.symm;rw[a2] at a0;clear hs j J U I HR hT a2;go_upto_region 5 with (first
    | (go_at_call 261;refine V.mono ?_;rintro e w3 ⟨rfl,a3⟩)
    | (refine al 243 z64 rfl rfl dG ?_)
    | (refine bZ 243 (.tmp 6) (.tmp 17) rfl rfl rfl rfl D.out.2.2 (by rw[d1];exact D.out.1) D.out.2.1 ?_;intro w4 a1 a4 c6))
   obtain⟨gs,O⟩:=je w3.heap.size;have b0:Hid (Blk w4 gs 243 (u8s s).toArray):=jz (by rw[O];exact a1);have a9:Hid (Bw w w4):=jz (aA (aA HB a3) a4);rw[<- O];have b7:Hid (w4.rangeAt gs 0 (u8s s)):=jz (by have h:=b0.range;rwa [jt] at h);have c7:IntKind.i64.wrap ((k:Int)+1)=((k+1:Nat):Int):=by rw[IntWalk.i64_in _ (by omega)];omega
   clear a1 a4 c6 a3 O V;have e1:(k:Int)+1<=9223372036854775807:=by omega
   have d5:(T:Int)<=4294967295:=by have:=c2.out;omega
   go_upto_region 9 with (first
    | (refine ld 243 _ rfl rfl rfl b7 underlying243 rfl (by simpa using D.out.2.2) ?_)
    | (go_at_call 262;refine(a0 w4).mono ?_;rintro e w5 ⟨rfl,a5⟩))
   have R:Hid (Bw w w5):=jz (aA a9 a5);clear a5;rcases Int.lt_or_le (x:Int) (T:Int) with e0|c9
   ·have K:Hid ((T:Int)=(cI d (k+1):Nat)):=jz (by
     have h2:k7 (rdS d ((k:Nat):Int))=T:=by rw[HT.out,HS.out]
     have h1:cI d (k+1)=max (cI d k) T:=by rw[<- h2];rfl
     rw[h1]
     have:=HX.out
     omega)
    go_wp2_with fail
    go_step3
    refine⟨rfl,⟨⟨k+1,(cI d (k+1)),_,_,_,_,_,_,_,_,_,_,_,_,_,_,_,_,_,_,_,_,_,_,_,_,_,by rw[<- K.out];rfl,by omega,jz rfl,R⟩⟩,?_⟩;simp[intOf];omega
   ·have K:Hid ((x:Int)=(cI d (k+1):Nat)):=jz (by
     have h2:k7 (rdS d ((k:Nat):Int))=T:=by rw[HT.out,HS.out]
     have h1:cI d (k+1)=max (cI d k) T:=by rw[<- h2];rfl
     rw[h1]
     have:=HX.out
     omega)
    have t9:decide (x<T)=false:=by simp only[decide_eq_false_iff_not];omega
    clear c9;go_wp2_with fail
    go_step3
    refine⟨rfl,⟨⟨k+1,(cI d (k+1)),_,_,_,_,_,_,_,_,_,_,_,_,_,_,_,_,_,_,_,_,_,_,_,_,_,by rw[<- K.out];rfl,by omega,jz rfl,R⟩⟩,?_⟩;simp[intOf];omega
  ·have c3:(n:Int)<=(k:Int):=by omega
   go_wp2_with fail
   simp only[Exit.jump];refine bodyPost_ret (results_tmp2 rfl _ _ _) rfl ?_;have c4:n=k:=by omega
   exact⟨by rw[c4,<- HX.out];rfl,HB⟩
def p8(d:DiskD):FSt:=fAt d (d.sec.length/2) ⟨0,cI d d.sec.length,0,0,false⟩ 2
def iY(d:DiskD):Ans×DiskD×Option (LogD×List cH):=match (p8 d).1 with
 | some es=>(none,d,some ((p8 d).2,es))
 | none=>if cI d d.sec.length=4294967295 then (some (13,none),d,none) else match wsA d 0 (rec (cI d d.sec.length+1) toll) with
  | some x=>(some x,wsD d 0 (rec (cI d d.sec.length+1) toll),none)
  | none=>(none,wsD d 0 (rec (cI d d.sec.length+1) toll),some (⟨0,cI d d.sec.length,cI d d.sec.length+1,0,false⟩,[]))
def cC(d:DiskD):Ans×DiskD×Option (LogD×List cH):=if d.sec.length<2 then (some (15,none),d,none) else match jX d with
 | some x=>(some x,cG d,none)
 | none=>iY (cG d)
theorem DS{d:DiskD}(h:jX d=none):(cG d).down=false/\(cG d).opn=[]:=by
 unfold jX at h;unfold cG;split at h
 ·cases h
 ·rename_i hd;split at h
  ·cases h
  ·rename_i j;split at h
   ·cases h
   ·rename_i h1;rw[jQ hd,jQ j,jQ h1];exact⟨by simpa [OC,aW] using hd,rfl⟩
theorem PV{d:DiskD}(h:d.steps<=d.room):(cG d).room<=d.room+1:=by
 have h1:=pW h;unfold cG;split
 ·omega
 ·split
  ·exact h1
  ·split
   ·exact h1
   ·exact h1
theorem JT(d:DiskD)(h:Nat)(L:LogD)(j:L.side<2/\L.last<4294967296/\L.gen<4294967296/\L.cnt<=10000)(hs:∀ f,(eP d f h).2.length<=10000/\∀ g,(eP d f h).1=some g->g<4294967296):∀ k,k<=2 ->
  ((fAt d h L k).1=none->(fAt d h L k).2=L)/\(fAt d h L k).2.side<2/\(fAt d h L k).2.last=L.last/\(fAt d h L k).2.gen<4294967296/\(fAt d h L k).2.cnt<=10000
 | 0,_=>⟨λ_=>rfl,j.1,rfl,j.2.2.1,j.2.2.2⟩
 | k+1,hk=>by
  have ih:=JT d h L j hs k (by omega);have x:=hs (bA h k);unfold fAt lD;cases hg:(eP d (bA h k) h).1 with
  | none=>exact ih
  | some g=>
   simp only;split
   ·exact ih
   ·exact⟨λe=>by simp at e,by show k<2;omega,ih.2.2.1,x.2 g hg,x.1⟩
theorem PW{s:Wl}(hs:Sec s){g:Nat}(h:oM s=some g):g<4294967296:=by
 unfold oM at h;cases hp:prs s with
 | none=>rw[hp] at h;cases h
 | some x=>
  obtain⟨j,p⟩:=x;rw[hp] at h;simp only at h;split at h
  ·injection h with h
   subst h;rw[TS hp];exact tP hs
  ·cases h
theorem zB:∀(L:List Wl) (st:SSt),(∀ s∈L,Sec s)->(∀ g,st.1=some g->g<4294967296)->∀ g,(gF st L).1=some g->g<4294967296
 | [],st,_,h0,g,h=>h0 g h
 | s :: L,st,hL,h0,g,h=>by
  rw[gF] at h;cases hq:kH st s with
  | none=>rw[hq] at h;exact h0 g h
  | some st'=>
   rw[hq] at h;refine zB L st' (λx D=>hL x (List.mem_cons_of_mem _ D)) (λI j=>?_) g h;have hs:=hL s (List.mem_cons_self ..);unfold kH at hq;cases h1:st.1 with
   | none=>
    rw[h1] at hq;simp only at hq;cases hp:oM s with
    | none=>rw[hp] at hq;cases hq
    | some g2=>
     rw[hp] at hq;simp only[Option.map_some,Option.some.injEq] at hq;rw[<- hq] at j;simp only[Option.some.injEq] at j;rw[<- j];exact PW hs hp
   | some g2=>
    rw[h1] at hq;simp only at hq;cases hp:pD s with
    | none=>rw[hp] at hq;cases hq
    | some ge=>
     rw[hp] at hq;simp only at hq;split at hq
     ·simp only[Option.some.injEq] at hq;rw[<- hq] at j;simp only[Option.some.injEq] at j;rw[<- j];exact h0 g2 h1
     ·cases hq
theorem PX{d:DiskD}(h:DOk d)(f n:Nat):(eP d f n).2.length<=10000/\∀ g,(eP d f n).1=some g->g<4294967296:=by
 have h1:=oG ((d.sec.drop f).take n) (none,[]);have j:=h.few;rw[jv,List.length_drop] at h1;refine⟨by unfold eP;simp at h1;omega,λg hg=>zB _ _ (λs hs=>h.sec s (List.mem_of_mem_drop (j7 hs))) (λg hg=>by cases hg) g hg⟩
def sJ(w w':Wd)(m':DiskM)(n:Nat)(r:Ans×DiskD×Option (LogD×List cH))(pl ve:Value):Prop:=match r.2.2 with
 | none=>pl = .pointer none/\ve = .slice none 0 0
 | some (L,es)=>∃ gl,pl = .pointer (some ⟨gl,0,none⟩)/\LK w' m' r.2.1 gl (n/2) L/\w.heap.size<=gl/\w'.ownsRow w.heap.size 172 33 ve es.length (es.flatMap aN)/\(∀ q∈es,EntOk q)/\(∀ b,ve.ownBlock=some b->Apart m' b/\b≠gl)
theorem PY(w:Wd)(m:DiskM)(d:DiskD)(hk:DK w m d)(hr:d.room+10<=100000):
  Wc 149 #[.pointer (some ⟨m.g,0,none⟩)] w λe w'=>∃ pl ve m',e = .returned (.tuple #[pl,ve,bK (cC d).1])/\DK w' m' (cC d).2.1/\DT w m w' m'/\sJ w w' m' d.sec.length (cC d) pl ve:=by
 have HK:=jz hk;have t7:=hk.ok.few;have n4:=jz (λW M D (h:DK W M D)=>y7 W M D h);have a0:=jz (n9 w m d hk (by omega));rw[oA] at a0;have v4:=oF;obtain⟨g9,d2⟩:=je m.g;have r5:Hid (m.g=g9):=jz d2.symm;obtain⟨n,hn⟩:=je d.sec.length;have HN:Hid (d.sec.length=n):=jz hn.symm;have v3:(n:Int)<=4096:=by omega
 have c9:=jz (n4 w m d hk);have t4:=hk.ok.st;rw[<- d2,<- hn] at c9;rw[<- d2] at a0;rw[<- d2,<- hn];clear hk d2;rcases jo n 2 with h2|h2
 ·have Z:Hid (cC d=(some (15,none),d,none)):=jz (by unfold cC;rw[jP (by omega)]);have hi:(n:Int)<2:=by omega
  clear hn;go_enter func149,ntmps149
  go_wp2_with fail
  refine c9.mono ?_;rintro e wq ⟨rfl,a3⟩;rw[a3];clear a3 wq;go_wp2_with fail
  refine bodyPost_ret (results_tmp3 rfl _ _ _) rfl ?_;exact⟨_,_,m,by rw[Z.out];rfl,by rw[Z.out];exact HK,DT.refl,by unfold sJ;rw[Z.out];exact⟨rfl,rfl⟩⟩
 have hi:(2:Int)<=n:=by omega
 cases hsa:jX d with
 | some x=>
  have Z:Hid (cC d=(some x,cG d,none)):=jz (by unfold cC;rw[jQ (by omega),hsa]);obtain⟨t,u,hv⟩:=bU x;rw[hsa,hv] at a0;have h8:Hid (bK (some x) = .iface t u):=jz hv;have f4:=cV t u;clear hn hsa hv;go_enter func149,ntmps149
  go_wp2_with fail
  refine c9.mono ?_;rintro e wq ⟨rfl,a3⟩;rw[a3];clear a3 wq;go_wp2_with fail
  refine a0.mono ?_;rintro e w1 ⟨rfl,K,f3,e0⟩;go_wp2_with fail
  refine bodyPost_ret (results_tmp3 rfl _ _ _) rfl ?_;exact⟨_,_,K,by rw[Z.out,h8.out];rfl,by rw[Z.out];exact f3,e0,by unfold sJ;rw[Z.out];exact⟨rfl,rfl⟩⟩
 | none=>
  obtain⟨I,f2⟩:=je (cG d);have Z:Hid (cC d=iY I):=jz (by unfold cC;rw[jQ (by omega),hsa,f2]);have a9:Hid (I.down=false/\I.opn=[]/\I.sec.length=n/\I.room<=d.room+1):=jz (by rw[f2];exact⟨(DS hsa).1,(DS hsa).2,(eV d).trans hn.symm,PV t4⟩);rw[<- f2,hsa] at a0;simp only[bK] at a0;clear hn hsa f2;go_enter func149,ntmps149
  go_wp2_with fail
  refine c9.mono ?_;rintro e wq ⟨rfl,a3⟩;rw[a3];clear a3 wq;go_wp2_with fail
  refine a0.mono ?_;rintro e w1 ⟨rfl,K,f3,e0⟩;obtain rfl:K.g=g9:=e0.g.trans r5.out;have a5:=jz f3;have f0:=jz e0;obtain⟨w2,f8⟩:=je (w1.alloc (.cells (bV K.g 0 ⟨0,0,0,0,false⟩) 327));have g3:Hid (Blk w2 w1.heap.size 327 (bV K.g 0 ⟨0,0,0,0,false⟩)):=jz (by rw[f8];exact Blk.new _ _ _);have h9:Hid (Bw w1 w2):=jz (by rw[f8];exact aG _ _);clear f3 e0 a0 c9;go_upto_region 7 with fail
  obtain⟨gl,k2⟩:=je w1.heap.size;have a4:Hid (w1.heap.size=gl):=jz k2.symm;have g2:w2=w1.alloc (.cells #[.pointer (some ⟨K.g,0,none⟩),.int .i64 0,.int .i64 0,.int .i64 0,.int .i64 0,.int .i64 0,.int .u32 0,.int .u32 0,.int .i64 0,.bool false] 327):=f8;rw[<- g2];rw[<- k2] at g3 ⊢;have t3:=g3.lt;clear f8 g2 k2;obtain⟨wS,a2⟩:=je w2.drew;have e8:Hid (Bw w2 wS):=jz (by rw[a2];exact(ji _ _).drew);have h5:=jz ((a5.keep h9).keep e8);have k4:=jz (g3.keep e8);refine kZ (n:=16) (λ_=>True) (trivial) (h:=λhH=>?_);rw[<- a2];clear a2;refine qM 0 (.pointer (some ⟨gl,0,none⟩)) ?_;refine qM 1 (.pointer (some ⟨gl,0,none⟩)) ?_;refine qM 2 (.pointer (some ⟨K.g,0,none⟩)) ?_;refine qT 8 (.pointer (some ⟨gl,0,none⟩)) ?_;refine qT 9 (.pointer (some ⟨gl,1,none⟩)) ?_;refine qT 12 (.pointer (some ⟨gl,0,none⟩)) ?_;refine qT 13 (.pointer (some ⟨gl,1,none⟩)) ?_;refine kF 3 (some 28) ((n4 wS K I h5).mono ?_);rintro e w3 ⟨rfl,rfl⟩;refine⟨_,rfl,trivial,λhH=>?_⟩;simp only[jq];rw[a9.out.2.2.1];refine kF 4 (some 29) ((C4 n w3 (by omega)).mono ?_);rintro e w4 ⟨rfl,f1⟩;refine⟨_,rfl,trivial,λhH=>?_⟩;simp only[jq];refine qM 5 (.tuple #[.agg #[.int .i64 0,.int .i64 ((n/2:Nat):Int)],.agg #[.int .i64 ((n/2:Nat):Int),.int .i64 ((n/2:Nat):Int)]]) ?_;refine qT 6 (.agg #[.int .i64 0,.int .i64 ((n/2:Nat):Int)]) ?_;refine qT 7 (.agg #[.int .i64 ((n/2:Nat):Int),.int .i64 ((n/2:Nat):Int)]) ?_;refine qT 10 (.pointer (some ⟨gl,1,none⟩)) ?_;obtain⟨J,k3⟩:∃ J:Nat,J=n/2:=⟨_,rfl⟩;rw[<- k3];have k0:=(k4.keep f1);have a7:=gD (t:=327) [.pointer (some ⟨K.g,0,none⟩)] [.int .i64 0,.int .i64 0] [.int .i64 0,.int .i64 0,.int .i64 0,.int .u32 0,.int .u32 0,.int .i64 0,.bool false] [.int .i64 0,.int .i64 J] k0 rfl;have c4:=gD (t:=327) [.pointer (some ⟨K.g,0,none⟩),.int .i64 0,.int .i64 J] [.int .i64 0,.int .i64 0] [.int .i64 0,.int .u32 0,.int .u32 0,.int .i64 0,.bool false] [.int .i64 J,.int .i64 J] a7.1 rfl;have d7:∀ a b:Int,∀ u∈[Value.int .i64 a,Value.int .i64 b],u.oneCell'=true:=λa b u hu=>by simp only[jl,j8,or_false] at hu;rcases hu with rfl|rfl <;> rfl
  refine kR 11 none (n:=2) (cs:=[.int .i64 0,.int .i64 J]) (cA k0 (by show 1+2<=10;omega)) rfl (d7 _ _) trivial (h:=?_);simp only[jq];refine qT 14 (.pointer (some ⟨gl,3,none⟩)) ?_;refine kR 15 none (n:=2) (cs:=[.int .i64 J,.int .i64 J]) (cA a7.1 (by show 3+2<=10;omega)) rfl (d7 _ _) trivial (h:=?_);simp only[jq];refine kE (h:=?_);obtain⟨w5,f9⟩:=je ((w4.setCells gl 1 [.int .i64 0,.int .i64 J]).setCells gl 3 [.int .i64 J,.int .i64 J]);rw[<- f9];have r1:Hid (Blk w5 gl 327 (bV K.g J ⟨0,0,0,0,false⟩)):=jz (by rw[f9];exact c4.1);have n2:Hid (Off gl w4 w5):=jz (by rw[f9];exact a7.2.1.trans c4.2.1);have h0:Hid (n/2=J):=jz k3.symm;have n1:Hid (Bw w1 w5):=jz ((aA (aA h9 e8) f1).trans (n2.below (by rw[a4.out];exact ja _) (by have h1:=h9.size;have h2:=e8.size;have h3:=f1.size;omega)));have s0:=jz (a5.keep n1);have b1:Hid (Apart K gl):=jz (Apart.fresh a5 (by rw[a4.out];exact ja _));have U:=a9.out.2.2.1;have h7:=jz (s8 w5 K I s0 a9.out.1);rw[U] at h7;obtain⟨R,d5⟩:=je (cI I n);have c3:Hid (R<4294967296):=jz (by rw[d5];exact vV a5.ok n);rw[<- d5] at h7;have q5:(R:Int)<=4294967295:=by have:=c3.out;omega
  have s5:Hid (p8 I=fAt I J ⟨0,R,0,0,false⟩ 2):=jz (by unfold p8;rw[U,h0.out,<- d5]);have m9:Hid (cI I I.sec.length=R):=jz (by rw[U];exact d5.symm);have h4:Hid (J+J<=I.sec.length/\J=I.sec.length/2):=jz (by rw[U];omega);have v0:Hid (J=d.sec.length/2):=jz (by rw[HN.out];omega);clear d5 U k3 a7 c4 d7 f1 k0 f9 n2 t3;go_wp2_with fail
  refine h7.mono ?_;rintro e w6 ⟨rfl,k1⟩;have e1:=jz (r1.keep k1);have s3:Hid (Bw w1 w6):=jz (aA n1 k1);have c6:w6.cell? ⟨gl,6,none⟩=some (.int .u32 0):=(e1.cell 6).trans rfl;have f6:=e1.frozen 6;have q3:=e1.lt;clear k1;go_wp2_with fail
  obtain⟨w7,g0⟩:=je (w6.setCell ⟨gl,6,none⟩ (.int .u32 R));have m3:Hid (Blk w7 gl 327 (bV K.g J ⟨0,R,0,0,false⟩)):=jz (by rw[g0];exact e1.set_ 6 _);have b7:Hid (Bw w1 w7):=jz (by rw[g0];exact s3.setCell (p:=⟨gl,6,none⟩) (by rw[a4.out];exact ja _) _);rw[<- g0];clear g0 c6 f6 q3;refine(PT w7 K I gl J ⟨0,R,0,0,false⟩ (a5.keep b7) m3 b1 a9.out.1 a9.out.2.1 h4.out.1).mono ?_;rintro e w8 ⟨v,rfl,hfr⟩;have O:=JT I J ⟨0,R,0,0,false⟩ ⟨by show 0<2;omega,c3,by show 0<_;omega,by show 0<=_;omega⟩ (λf=>PX a5.ok f J) 2 (ja _);rw[<- s5.out] at hfr O ⊢;obtain⟨p,hp⟩:=je (p8 I);have HP:Hid (p8 I=p):=jz hp.symm;rw[<- hp] at hfr O ⊢;have m8:Hid (Bw w1 w8):=jz (b7.trans (hfr.fo.below (λk hk=>by rw[List.mem_singleton] at hk;rw[hk,a4.out];exact ja _) b7.size));have c2:Hid (LK w8 K I gl J p.2):=jz ⟨hfr.dk,hfr.blk,b1,⟨O.2.1,by rw[O.2.2.1];exact c3,O.2.2.2.1,O.2.2.2.2,h4.out.2⟩⟩;have n3:Hid (w8.ownsRow w.heap.size 172 33 v (p.1.getD []).length ((p.1.getD []).flatMap aN)):=jz (bE hfr.own (by have h1:=f0.fo.size;have h2:=b7.size;omega));have s4:Hid (∀ b,v.ownBlock=some b->Apart K b/\b≠gl):=jz (λb e=>⟨Apart.fresh (a5.keep b7) (hfr.own.lt b e).1,λe2=>by have h1:=m3.lt;have h2:=(hfr.own.lt b e).1;omega⟩);have m4:=jz hfr.ok;have m6:Hid (w.heap.size<=gl):=jz (by have h1:=f0.fo.size;have h2:=a4.out;omega);have r7:=jz O.1;have n6:Hid (DT w m w8 K):=jz (f0.trans (DT.of_below m8));clear hp hfr O;cases hp1:p.1 with
  | some es=>
   have V:Hid (iY I=(none,I,some (p.2,es))):=jz (by unfold iY;rw[HP.out,hp1]);rw[hp1] at n3 m4;clear hp1;simp only[Option.isSome_some];go_wp2_with fail
   refine bodyPost_ret (results_tmp3 rfl _ _ _) rfl ?_;refine⟨_,_,K,by rw[Z.out,V.out];rfl,by rw[Z.out,V.out];exact c2.dk,n6,?_⟩;unfold sJ;rw[Z.out,V.out];exact⟨gl,rfl,by rw[h0.out];exact c2,m6,n3,m4,s4⟩
  | none=>
   simp only[Option.isSome_none];rcases jo R 4294967295 with q6|q6
   ·have t0:Hid (p.2=⟨0,R,0,0,false⟩):=jz (r7 hp1);have f4:R≠4294967295:=by omega
    obtain⟨gn,q2⟩:=je (R+1);have V:Hid (iY I=match wsA I 0 (rec gn toll) with
      | some x=>(some x,wsD I 0 (rec gn toll),none)
      | none=>(none,wsD I 0 (rec gn toll),some (⟨0,R,gn,0,false⟩,[]))):=jz (by unfold iY;rw[HP.out,hp1];simp only[m9.out,jQ f4,q2])
    have a8:Hid (Blk w8 gl 327 (bV K.g J ⟨0,R,0,0,false⟩)):=jz (by have h:=c2.blk;rw[t0.out] at h;exact h);have c5:w8.cell? ⟨gl,5,none⟩=some (.int .i64 0):=(a8.cell 5).trans rfl;have c7:w8.cell? ⟨gl,7,none⟩=some (.int .u32 0):=(a8.cell 7).trans rfl;have f5:=a8.frozen 5;have f7:=a8.frozen 7;have t5:=a8.lt;have n0:Hid ((R:Int)<4294967295):=jz (by omega);have t9:((R:Int) == 4294967295)=false:=by rw[beq_eq_false_iff_ne];omega
    have r6:Hid ((R:Int)+1=gn):=jz (by omega);have m5:Hid (gn<4294967296):=jz (by omega);clear hp1 q2 f4 q6 q5;go_upto_region 19 with fail
    have t6:=n0.out;go_upto_region 21 with fail
    rw[r6.out];obtain⟨w9,b0⟩:=je ((w8.setCell ⟨gl,5,none⟩ (.int .i64 0)).setCell ⟨gl,7,none⟩ (.int .u32 (gn:Int)));have r2:Hid (Blk w9 gl 327 (bV K.g J ⟨0,R,gn,0,false⟩)):=jz (by rw[b0];exact(a8.set_ 5 _).set_ 7 _);have q4:∀ j,j≠gl->w9.heap[j]? = w8.heap[j]?:=λj hj=>by rw[b0,Below.heap_setCell _ ⟨gl,7,none⟩ _ j hj,Below.heap_setCell _ ⟨gl,5,none⟩ _ j hj]
    have s1:Hid (DK w9 K I):=jz (c2.dk.offK q4 (by rw[b0];simp) b1);have t2:Hid (DT w m w9 K):=jz (f0.trans (DT.of_below (by rw[b0];exact(m8.setCell (p:=⟨gl,5,none⟩) (by rw[a4.out];exact ja _) _).setCell (p:=⟨gl,7,none⟩) (by rw[a4.out];exact ja _) _)));rw[<- b0];clear b0 q4 c5 c7 f5 f7 t9;obtain⟨wS,a2⟩:=je w9.drew;have g8:Hid (Bw w9 wS):=jz (by rw[a2];exact(ji _ _).drew);have h5:=jz (s1.keep g8);have t1:Hid (∀ W,Blk W gl 327 (bV K.g J ⟨0,R,gn,0,false⟩)->W.rangeAt gl 1 [.int .i64 0,.int .i64 J]):=jz (λW hk=>p7 hk 0 (by omega));refine kZ (n:=12) (λW=>Blk W gl 327 (bV K.g J ⟨0,R,gn,0,false⟩)) (by rw[<- a2];exact r2.keep g8) (h:=λhH=>?_);rw[<- a2] at hH ⊢;clear a2;refine qM 0 (.pointer (some ⟨K.g,0,none⟩)) ?_;refine qM 1 (.pointer (some ⟨gl,0,none⟩)) ?_;refine qT 2 (.pointer (some ⟨gl,0,none⟩)) ?_;refine qT 3 (.pointer (some ⟨gl,1,none⟩)) ?_;refine qT 4 (.pointer (some ⟨gl,1,none⟩)) ?_;refine qL 5 (cs:=[.int .i64 0,.int .i64 J]) (λ_ hX=>t1.out _ hX) (rfl) ?_;refine qM 6 (.pointer (some ⟨gl,0,none⟩)) ?_;refine qT 7 (.pointer (some ⟨gl,0,none⟩)) ?_;refine qT 8 (.pointer (some ⟨gl,7,none⟩)) ?_;refine qC 9 (v:=.int .u32 gn) (λ_ hX=>(hX.cell 7).trans rfl) ?_;refine kF 10 (some 83) ((sH 0 J gn wS K I h5 (by exact⟨by decide,by decide⟩) m5 (by have:=a9.out.2.2.2;omega)).mono ?_);rintro e q7 ⟨rfl,m2,g1,a1⟩;have d0:Blk q7 gl 327 (bV K.g J ⟨0,R,gn,0,false⟩):=(a1.off hH.lt b1.out.1).trans hH;refine⟨_,rfl,d0,λq1=>?_⟩;simp only[jq];refine qT 11 (bK (wsA I 0 (rec gn toll))) ?_;refine kE (h:=?_);have h6:=jz g1;have q0:=jz ((t2.trans (DT.of_below g8)).trans a1);have r0:=jz (b1.next hH.lt a1);have r3:Hid (Blk q7 gl 327 (bV m2.g J ⟨0,R,gn,0,false⟩)):=jz (by rw[a1.g];exact d0);clear g1 a1 d0 q1 hH;cases hpa:wsA I 0 (rec gn toll) with
    | some x=>
     have a6:Hid (iY I=(some x,wsD I 0 (rec gn toll),none)):=jz (by rw[V.out,hpa]);obtain⟨t,u,hv⟩:=bU x;have h8:=jz hv;have f4:=cV t u;rw[hv];clear hpa hv;go_wp2_with fail
     refine bodyPost_ret (results_tmp3 rfl _ _ _) rfl ?_;refine⟨_,_,m2,by rw[Z.out,a6.out,h8.out];rfl,by rw[Z.out,a6.out];exact h6,q0,?_⟩;unfold sJ;rw[Z.out,a6.out];exact⟨rfl,rfl⟩
    | none=>
     have a6:Hid (iY I=(none,wsD I 0 (rec gn toll),some (⟨0,R,gn,0,false⟩,[]))):=jz (by rw[V.out,hpa]);have hv:bK none = .nilIface:=rfl;rw[hv];clear hpa hv;go_wp2_with fail
     refine bodyPost_ret (results_tmp3 rfl _ _ _) rfl ?_;refine⟨_,_,m2,by rw[Z.out,a6.out];rfl,by rw[Z.out,a6.out];exact h6,q0,?_⟩;unfold sJ;rw[Z.out,a6.out];exact⟨gl,rfl,by rw[h0.out];exact⟨h6,r3,r0,⟨by show 0<2;omega,c3,m5,by show 0<=10000;omega,by rw[mI];exact h4.out.2⟩⟩,m6,World.ownsRow_nil _ _ _ _,(λq hq=>by cases hq),λb e=>by cases e⟩
   ·obtain rfl:R=4294967295:=by have:=c3.out;omega
    have V:Hid (iY I=(some (13,none),I,none)):=jz (by unfold iY;rw[HP.out,hp1];simp only[m9.out];rfl);clear hp1;go_wp2_with fail
    refine bodyPost_ret (results_tmp3 rfl _ _ _) rfl ?_;refine⟨_,_,K,by rw[Z.out,V.out];rfl,by rw[Z.out,V.out];exact c2.dk,n6,?_⟩;unfold sJ;rw[Z.out,V.out];exact⟨rfl,rfl⟩
end
end Go.Proofs.YtiaigidbcljblaaGreatDoor
