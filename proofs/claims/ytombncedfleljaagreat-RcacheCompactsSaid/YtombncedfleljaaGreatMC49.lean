import Derived.Test.YtombncedfleljaaGreatMC48
set_option linter.unusedVariables false
set_option linter.unusedSimpArgs false
set_option maxRecDepth 100000
set_option maxHeartbeats 40000000
namespace Go.Proofs.YtombncedfleljaaGreat
open Go.RowKit
attribute [local irreducible] wpQuiet wpAnyH
def nX(co:Option CacheD)(now:Int):EL:=match co with
 | none=>[]
 | some C=>aE C.E now
section
variable {w0 w W W' : World} {m m' m2 : DiskM} {d d' d2 : DiskD} {n n' g9 : Nat} {cv cv' cv2 : Value} {F F' F2 : List Nat} {co co' co2 : Option CacheD} {mr mr2 : RM} {r r2 : RefD} {v x v2 x2 : Value} {C C2 : RCach} {now now2 : Int} {gz g2 N K k k2 : Nat}
theorem DN(now:Int)(h:CO w0 w m d n cv F co)(hn:n≤1000):
  Calls Tryz.prog 19 #[cv,.int .i64 now] w fun e w'=>∃ v,e = .returned v∧Sn w' 33 v (nX co now).length ((nX co now).flatMap aC)∧Below w.heap.size w w'∧∀ b,v.ownBlock=some b→w.heap.size≤b∧b<w'.heap.size:=by
 rcases h with ⟨rfl,_,rfl⟩|⟨gc,gl,gi,bi,C,rfl,_,rfl,hc,_⟩
 ·refine(BF now w).mono ?_;rintro e w' ⟨rfl,rfl⟩;exact⟨_,rfl,⟨none,0,rfl,Nat.le_refl _,rfl,fun h=>absurd h (by simp[nX])⟩,Below.refl _ _,fun b e=>by cases e⟩
 ·exact K1 now hc hn
theorem KH{C:CacheD}(h:CO w0 w m d n cv F (some C)):Calls Tryz.prog 24 #[cv] w fun e w'=>e = .returned (.int .i64 C.L.cnt)∧w'=w:=by
 rcases h with ⟨_,_,h⟩|⟨gc,gl,gi,bi,C',rfl,_,hc,h4,_⟩
 ·cases h
 ·injection hc with hc
  subst hc;exact sP h4
theorem IU(h:CO w0 w m d n cv F co)(now:Int):(∀ p∈nX co now,EntOk p)∧(nX co now).length≤n:=by
 rcases h with ⟨_,_,rfl⟩|⟨gc,gl,gi,bi,C,_,_,rfl,h4,_⟩
 ·exact⟨(fun p hp=>by cases hp),Nat.zero_le _⟩
 ·exact⟨(h4.ix.wl.live now).ok,Nat.le_trans (eX C.E now) h4.ix.len⟩
theorem IV(h:IC N K d co)(hst:St w0 w m d)(hK:K≤99)(hN:N≤30)(hr:d.room≤10000)(now:Int):
  (∃ x,BP d co now=some x∧KD (mV d co now).2=true) ∨
  (∃ C1,BP d co now=none∧(mV d co now).2=some C1∧C1.L.cnt=(nX co now).length∧nX (some C1) now=nX co now∧∀ q,EntOk q→E5 (mV d co now).1 (some C1) q now=E5 d co q now):=by
 have hk:=hst.dk.ok;have hl:=h.sb.len;cases co with
 | none=>exact .inl ⟨_,rfl,rfl⟩
 | some C=>
  rcases h.co C rfl with hb|hu
  ·have hc:=zT (d:=d) (now:=now) hb;exact .inl ⟨_,hc.2,by rw[hc.1];exact hb⟩
  ·cases hd:d.down with
   | true=>
    obtain⟨x,h1,h2⟩:=KG hu hk (by omega) (by omega) hd now;rw[← hl] at h1 h2;exact .inl ⟨x,h1,h2⟩
   | false=>
    obtain⟨d1,C1,e,h1,h2,h3⟩:=L6 hu h.np hk (by omega) hN hd hr now;have hbd:=(lS hk.st (N/2) C now).2;rw[e,hl] at hbd;have hbd:d1.sec.length=N:=hbd;rw[← hl] at e;have eO:mV d (some C) now=(d1,some C1):=by show((cmpR d _ C now).2.1,some (cmpR d _ C now).2.2)=_;rw[e]
    refine .inr ⟨C1,?_,?_,h2,?_,fun q hq=>?_⟩
    ·show(cmpR d _ C now).1=none;rw[e]
    ·rw[eO]
    ·show aE C1.E now=aE C.E now;rw[h1];exact sI _ (Int.le_refl _)
    ·rw[eO];show(insR d1 (d1.sec.length/2) C1 q now).1=(insR d (d.sec.length/2) C q now).1;rw[hbd,hl];exact h3 q hq
theorem BY.more(h:BY w0 W gz N k m d cv F co mr r v x C now):BY w0 W gz N (k+1) m d cv F co mr r v x C now:=by
 have e:=DH k;exact⟨⟨h.pp.st,h.pp.co.up (by omega),h.pp.rv,h.pp.dj⟩,h.b,h.f,h.nr,h.h0,by have:=h.rm;omega,h.dl,h.rl,by have:=h.rs;omega,by have:=h.ro;omega,by have:=h.rp;omega,by have:=h.el;omega,h.n0,by have:=h.n1;omega⟩
theorem TW.keep(t:TW W m F (bF mr r v x) gz m2 F2 (bF mr2 r2 v2 x2) g2)(hp:PP w0 W m d n cv F co mr r v x C):TW W' m F (bF mr r v x) gz m2 F2 (bF mr2 r2 v2 x2) g2:=
 ⟨fun b _=>by
  rcases Nat.lt_or_ge b W.heap.size with h|h
  ·exact t.c b h
  ·exact .inl (hp.far_new h),t.r1,t.r2,t.z1,t.z2,t.ne⟩
structure T2(w0 W:World)(gz g2 N k:Nat)(m:DiskM)(d:DiskD)(cv:Value)(F:List Nat)(co:Option CacheD)(mr:RM)(r:RefD)(v x:Value)(C:RCach)(now:Int)(m2:DiskM)(cv2:Value)(F2:List Nat)(mr2:RM)(r2:RefD)(v2 x2:Value)(C2:RCach):Prop where
 a:BY w0 W gz N k m d cv F co mr r v x C now
 b:BY w0 W g2 N k m2 d cv2 F2 co mr2 r2 v2 x2 C2 now
 t:TW W m F (bF mr r v x) gz m2 F2 (bF mr2 r2 v2 x2) g2
 i:IC N k d co
def R2y(w0 W:World)(gz g2 N k:Nat):Prop:=∃ m d cv F co mr r v x C now m2 cv2 F2 mr2 r2 v2 x2 C2,T2 w0 W gz g2 N k m d cv F co mr r v x C now m2 cv2 F2 mr2 r2 v2 x2 C2
theorem T2.more(h:T2 w0 W gz g2 N k m d cv F co mr r v x C now m2 cv2 F2 mr2 r2 v2 x2 C2):R2y w0 W gz g2 N (k+1):=⟨_,_,_,_,_,_,_,_,_,_,_,_,_,_,_,_,_,_,_,h.a.more,h.b.more,h.t,h.i.more (Nat.le_succ k)⟩
structure EE(w0 W:World)(gz g9 g2 N k n:Nat)(m:DiskM)(d:DiskD)(cv:Value)(F:List Nat)(co:Option CacheD)(mr:RM)(r:RefD)(v x:Value)(C:RCach)(now:Int)(m2:DiskM)(d2:DiskD)(cv2:Value)(F2:List Nat)(co2:Option CacheD)(mr2:RM)(r2:RefD)(v2 x2:Value)(C2:RCach):Prop where
 p:TY w0 W gz g9 n m d cv F co mr r v x C now
 q:BY w0 W g2 N k m2 d2 cv2 F2 co2 mr2 r2 v2 x2 C2 now
 t:TW W m F (bF mr r v x) gz m2 F2 (bF mr2 r2 v2 x2) g2
theorem EE.keep(h:EE w0 W gz g9 g2 N k n m d cv F co mr r v x C now m2 d2 cv2 F2 co2 mr2 r2 v2 x2 C2)(hb:Below W.heap.size W W'):EE w0 W' gz g9 g2 N k n m d cv F co mr r v x C now m2 d2 cv2 F2 co2 mr2 r2 v2 x2 C2:=⟨h.p.keep hb,h.q.keep hb,h.t.keep h.p.pp⟩
theorem EE.op(h:EE w0 W gz g9 g2 N k n m d cv F co mr r v x C now m2 d2 cv2 F2 co2 mr2 r2 v2 x2 C2)(hg:m'.g=m.g)(ht:CT F W m W' m')(hst:St w0 W' m' d')(hco:CO w0 W' m' d' n' cv F co'):EE w0 W' gz g9 g2 N k n' m' d' cv F co' mr r v x C now m2 d2 cv2 F2 co2 mr2 r2 v2 x2 C2:=by
 have hx:=h.t.step h.q (r':=r) (mr':=mr) (v':=v) (x':=x) (⟨ht.fo.size,fun b hb hf=>⟨ht.block hb hf,ht.far hb hf⟩⟩:XF W m F W' m' F) hst.bel (fun b hr=>.inl hr);exact⟨h.p.op hg ht hst hco,hx.1,hx.2⟩
theorem K9{w2 w5 w6 w8:World}{m m2:DiskM}{mr mr2:RM}{gz g2 N:Nat}{r0:RefD}{C0:RCach}(hp:PP w2 w5 m (fV N) 20 (.pointer none) [] none mr r0 (.slice none 0 0) (.slice none 0 0) C0)(hz:gz<w5.heap.size)(hst:St w5 w6 m2 (fV N))(hf:∀ b∈aL mr2 r0,w6.heap.size≤b)(h2:w6.heap.size≤g2)(hn:¬bF mr2 r0 (.slice none 0 0) (.slice none 0 0) g2):
  TW w8 m [] (bF mr r0 (.slice none 0 0) (.slice none 0 0)) gz m2 [] (bF mr2 r0 (.slice none 0 0) (.slice none 0 0)) g2:=by
 have hs:=hst.bel.size;have ho:∀ b,b<w5.heap.size→Far m2 [] b:=fun b hb=>⟨⟨fun hm=>by have:=hst.ft b hm;omega,fun k hk v hv e=>by
  have h1:=hst.dk.crv k hk
  have h1:m2.cv k=none:=h1
  rw[h1] at hv
  cases hv⟩,fun hm=>by cases hm⟩
 have hr1:∀ b,bF mr r0 (.slice none 0 0) (.slice none 0 0) b→b<w5.heap.size:=fun b hb=>hp.rv.bl b hb
 have hr2:∀ b,bF mr2 r0 (.slice none 0 0) (.slice none 0 0) b→w5.heap.size≤b:=fun b hb=>by
  rcases hb with hb|hb|hb
  ·have:=hf b hb;omega
  ·cases hb
  ·cases hb
 refine⟨fun b _=>?_,fun b hb=>⟨ho b (hr1 b hb),fun e=>by have:=hr1 b hb;omega⟩,fun b hb=>⟨hp.far_new (hr2 b hb),fun e=>by have:=hr2 b hb;omega⟩,⟨ho gz hz,fun hr=>by have:=hr2 gz hr;omega⟩,⟨hp.far_new (by omega),fun hr=>by have:=hr1 g2 hr;omega⟩,by omega⟩;rcases Nat.lt_or_ge b w5.heap.size with h|h
 ·exact .inr (ho b h)
 ·exact .inl (hp.far_new h)
end
end Go.Proofs.YtombncedfleljaaGreat
