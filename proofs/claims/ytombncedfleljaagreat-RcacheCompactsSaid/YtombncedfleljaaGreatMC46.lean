import Derived.Test.YtombncedfleljaaGreatMC45
set_option linter.unusedVariables false
set_option linter.unusedSimpArgs false
set_option maxRecDepth 100000
set_option maxHeartbeats 40000000
namespace Go.Proofs.YtombncedfleljaaGreat
section
open Go.RowKit
attribute [local irreducible] wpQuiet wpAnyH
section
variable {w : World} {m : DiskM} {d : DiskD} {gc gl gi bi h n : Nat} {C : CacheD}
theorem L5(dg:List Int)(now:Int)(k:CK w m d gc gl gi bi h n C)(hd:DigOk dg):
  Calls Tryz.prog 26 #[.pointer (some ⟨gc,0,none⟩),.agg (u8s dg).toArray,.int .i64 now] w fun e w'=>e = .returned (.bool (fI C.E dg now))∧Below w.heap.size w w':=by
 obtain⟨w1,hw1⟩:=je (w.alloc (.cells (u8s dg).toArray 33));obtain⟨gd,hgd⟩:=je w.heap.size;have HB1:Hid (Below w.heap.size w w1):=jz (by rw[hw1];exact aN _ _);have HS1:Hid (CK w1 m d gc gl gi bi h n C∧Blk w1 gd 33 (u8s dg).toArray):=jz (by rw[hw1,hgd];exact⟨k.keep (aN _ _),Blk.new _ _ _⟩);have HD:=jz hd;have HDL:Hid ((u8s dg).length=32):=jz (by unfold u8s;rw[List.length_map];exact hd.1);clear k hd;go_enter Tryz.func26,Tryz.ntmps26
 go_upto_region 1 with fail
 rw[← hw1];simp only[← hgd];clear hw1 hgd;obtain⟨wS,hwS⟩:=je w1.drew;have hbS:Below w1.heap.size w1 wS:=by rw[hwS];exact(Below.refl _ _).drew
 have HSS:Hid (CK wS m d gc gl gi bi h n C∧Blk wS gd 33 (u8s dg).toArray):=jz ⟨HS1.out.1.keep hbS,HS1.out.2.keep hbS⟩;have HBS:=jz (aB HB1.out hbS);clear hbS HS1 HB1;refine kZ (n:=12) (fun W=>CK W m d gc gl gi bi h n C∧Blk W gd 33 (u8s dg).toArray) (by rw[← hwS];exact HSS.out) (h:=fun hH=>?_);rw[← hwS] at hH ⊢;clear hwS;refine kM 0 (some 7) (.pointer (some ⟨gc,0,none⟩)) (h:=?_);simp only[jq];refine kT 1 (some 8) (.bool true) (h:=?_);simp only[jq];refine kM 2 (some 9) (.bool true) (h:=?_);simp only[jq];refine kM 3 (some 10) (.pointer (some ⟨gc,0,none⟩)) (h:=?_);simp only[jq];refine kT 4 (some 11) (.pointer (some ⟨gc,0,none⟩)) (h:=?_);simp only[jq];refine kT 5 (some 12) (.pointer (some ⟨gc,1,none⟩)) (h:=?_);simp only[jq];refine kC 6 (some 13) (v:=.pointer (some ⟨gi,0,none⟩)) (fun _ hX=>(hX.1.blk.cell 1).trans rfl) (h:=?_);simp only[jq];refine kL 7 (some 14) (cs:=u8s dg) (fun _ hX=>by have h2:=hX.2.range;rwa [jt] at h2) (HDL.out) (h:=?_);simp only[jq];refine kM 8 (some 15) (.int .i64 now) (h:=?_);simp only[jq];refine kF 9 (some 16) ((G6 wS gi bi n C.E dg now HSS.out.1.ix HD.out).mono ?_);rintro e wC ⟨rfl,hbC⟩;have HSC:Hid (CK wC m d gc gl gi bi h n C∧Blk wC gd 33 (u8s dg).toArray):=jz ⟨HSS.out.1.keep hbC,HSS.out.2.keep hbC⟩;have HBC:=jz (aB HBS.out hbC);clear hbC;refine⟨_,rfl,HSC.out,fun hH=>?_⟩;simp only[jq];refine kT 10 (some 17) (.bool (fI C.E dg now)) (h:=?_);simp only[jq];refine kT 11 (some 6) (.bool (fI C.E dg now)) (h:=?_);simp only[jq];refine kE (h:=?_);go_wp2_with fail
 go_ret;exact⟨rfl,HBC.out⟩
end
theorem K6{w0 w:World}{m:DiskM}{d:DiskD}{n:Nat}{cv:Value}{F:List Nat}{co:Option CacheD}(hst:St w0 w m d)(hco:CO w0 w m d n cv F co)(hn:n≤900)(hr:d.room+40000≤100000)(o:Op21)(now:Int):
    (opI d co o now).1.room≤d.room+2*n+8∧(opI d co o now).1.sec.length=d.sec.length:=by
  have hz:d.room≤d.room+2*n+8∧d.sec.length=d.sec.length:=⟨by omega,rfl⟩;have hs:=hst.dk.ok.st;unfold opI;split
  · rcases hco with ⟨_,_,rfl⟩|⟨gc,gl,gi,bi,C,_,_,rfl,h4,_⟩
    · exact hz
    · have hE:=h4.ix.len;have hdk:=xW h4 (by omega) (by omega) now;have h:=DG hs (d.sec.length/2) C (gZ o.ent (now+o.more)) now hdk.st;exact⟨by have:=h.1;show(insR _ _ _ _ _).2.1.room≤_;omega,h.2⟩
  split
  · rcases hco with ⟨_,_,rfl⟩|⟨gc,gl,gi,bi,C,_,_,rfl,h4,_⟩
    · exact hz
    · have hE:=h4.ix.len;have h:=lS hs (d.sec.length/2) C now;exact⟨by have:=h.1;show(cmpR _ _ _ _).2.1.room≤_;omega,h.2⟩
  split
  · exact⟨by have:=zM hs;show(openR d).2.1.room≤_;omega,oU d⟩
  split
  · exact hz
  split
  · have h:=(qJ d o.n []).1;exact⟨by have:=h.1;show(planF _ _).room≤_;omega,h.2⟩
  split
  · have h:=(qJ d o.n o.cuts).2;exact⟨by have:=h.1;show(planC _ _ _).room≤_;omega,h.2⟩
  split
  · exact⟨by show d.room≤_;omega,cU _ _ _⟩
  · exact ⟨by have h2 : (openR (dW d)).2.1.room ≤ d.room + 4 := zM (d := dW d) hs
              show(openR (dW d)).2.1.room≤_;omega,oU (dW d)⟩
theorem xX(g:Nat)(m:RM)(r:RefD):Tryz.prog.built 65 [(0,.pointer (some ⟨g,0,none⟩)),(2,.agg (aA m r))]=some (ppC g (.pointer none) m r (.slice none 0 0) (.slice none 0 0) rc0 0):=by
 unfold aA ppC rc0 rl0
 kernel_rfl
theorem BR{w2 w3 w4:World}{m:DiskM}{mr:RM}{N:Nat}(hst:St w2 w3 m (fV N))(hb:Below w3.heap.size w3 w4)(hk:RK w4 mr (iG N))(hf:∀ b∈aL mr (iG N),w3.heap.size≤b):PP w2 w4 m (fV N) 20 (.pointer none) [] none mr (iG N) (.slice none 0 0) (.slice none 0 0) rc0:=
 ⟨hst.keep hb,.inl ⟨rfl,rfl,rfl⟩,⟨hk,RLK.zero _,⟨none,0,rfl,Nat.le_refl _,rfl,fun h=>absurd h (by simp[rc0])⟩,(fun p hp=>by cases hp),fun b e=>by cases e⟩,fun b hm=>by
  have hb3:w3.heap.size≤b:=by
   rcases hm with hm|hm|hm
   ·exact hf b hm
   ·cases hm
   ·cases hm
  exact⟨Apart.fresh hst.dk hb3,fun e=>by cases e⟩⟩
structure BY(w0 W:World)(gz N k:Nat)(m:DiskM)(d:DiskD)(cv:Value)(F:List Nat)(co:Option CacheD)(mr:RM)(r:RefD)(v x:Value)(C:RCach)(now:Int):Prop where
 pp:PP w0 W m d (20+k) cv F co mr r v x C
 b:Blk W gz 65 (ppC m.g cv mr r v x C now)
 f:Far m F gz
 nr:¬bF mr r v x gz
 h0:w0.heap.size≤gz
 rm:d.room≤200*k
 dl:d.sec.length=N
 rl:r.sec.length=N
 rs:r.steps≤(12*(k*k):Nat)
 ro:r.opn.length≤12*(k*k)
 rp:r.plan.length≤12*(k*k)
 el:C.E.length≤12*k
 n0:0≤now
 n1:now≤1048576*(k:Int)
theorem nW{k:Nat}(h:k≤39):k*k≤1521:=Nat.mul_le_mul h h
theorem DH(k:Nat):(k+1)*(k+1)=k*k+2*k+1:=by rw[Nat.succ_mul_succ];omega
section
variable {w0 W W' : World} {gz N k : Nat} {m m' : DiskM} {d : DiskD} {cv cv' : Value} {F F' : List Nat} {co : Option CacheD} {mr mr' : RM} {r r' : RefD} {v v' x x' : Value} {C C' : RCach} {now : Int} {o : Op21}
theorem BY.keep(h:BY w0 W gz N k m d cv F co mr r v x C now)(hb:Below W.heap.size W W'):BY w0 W' gz N k m d cv F co mr r v x C now:=⟨h.pp.keep hb,h.b.keep hb,h.f,h.nr,h.h0,h.rm,h.dl,h.rl,h.rs,h.ro,h.rp,h.el,h.n0,h.n1⟩
theorem BY.step(h:BY w0 W gz N k m d cv F co mr r v x C now)(hk:k≤39)(hN:N≤11)(ho:l9 o)(hg:m'.g=m.g)(hp:PP w0 W' m' (opI d co o now).1 (20+k+1) cv' F' (opI d co o now).2 mr' r' v' x' C')(hx:XF W m F W' m' F')(hs:∀ b,bF mr' r' v' x' b→bF mr r v x b∨W.heap.size≤b)(hb:Rb (2*C.E.length+8) r r')(hl:r'.sec.length=r.sec.length)(he:C'.E.length≤C.E.length+1+r.sec.length):
  BY w0 (W'.setCells gz 0 (ppC m.g cv' mr' r' v' x' C' (b9 o now)).toList) gz N (k+1) m' (opI d co o now).1 cv' F' (opI d co o now).2 mr' r' v' x' C' (b9 o now):=by
 have hq:=hx.2 gz h.b.lt h.f;have hB:Blk W' gz 65 (ppC m.g cv mr r v x C now):=hq.1.trans h.b;have hnr:¬bF mr' r' v' x' gz:=fun hr=>(hs gz hr).elim h.nr (fun h1=>by have:=h.b.lt;omega)
 have h1:=K6 h.pp.st h.pp.co (by omega) (by have:=h.rm;omega) o now;have e2:=DH k;have h3:=h.el;have h4:=h.rl;refine⟨hp.off (dA gz _ 0 W') hq.2 h.h0 hnr,by rw[hg];exact Blk.setAll _ hB rfl,hq.2,hnr,h.h0,by have:=h.rm;omega,h1.2.trans h.dl,hl.trans h.rl,by have:=h.rs;have:=hb.1;omega,by have:=h.ro;have:=hb.2.1;omega,by have:=h.rp;have:=hb.2.2;omega,by omega,?_,?_⟩
 ·have:=h.n0;have:=ho.2.1;unfold b9;split <;> omega
 ·have:=h.n1;have:=ho.2.2.1;have:=ho.2.1;unfold b9;split <;> omega
end
def RBy(w0 W:World)(gz N k:Nat):Prop:=∃ m d cv F co mr r v x C now,BY w0 W gz N k m d cv F co mr r v x C now
end
section
open Go.RowKit
attribute [local irreducible] wpQuiet wpAnyH
theorem KM:SlT Tryz.prog 22 31 5 56:=SlT.mk' Tryz.underlying22 (z:=.agg #[.int .i64 0,.int .i64 0,.int .i64 0,.int .i64 0,.slice none 0 0]) (by kernel_rfl) rfl (by decide)
structure TY(w0 W:World)(gz g9 n:Nat)(m:DiskM)(d:DiskD)(cv:Value)(F:List Nat)(co:Option CacheD)(mr:RM)(r:RefD)(v x:Value)(C:RCach)(now:Int):Prop where
 pp:PP w0 W m d n cv F co mr r v x C
 b:Blk W gz 65 (ppC g9 cv mr r v x C now)
 f:Far m F gz
 g:m.g=g9
section
variable {w0 W W' : World} {gz g9 n n' : Nat} {m m' : DiskM} {d d' : DiskD} {cv : Value} {F : List Nat} {co co' : Option CacheD} {mr : RM} {r : RefD} {v x : Value} {C : RCach} {now : Int}
theorem TY.keep(h:TY w0 W gz g9 n m d cv F co mr r v x C now)(hb:Below W.heap.size W W'):TY w0 W' gz g9 n m d cv F co mr r v x C now:=⟨h.pp.keep hb,h.b.keep hb,h.f,h.g⟩
theorem TY.op(h:TY w0 W gz g9 n m d cv F co mr r v x C now)(hg:m'.g=m.g)(ht:CT F W m W' m')(hst:St w0 W' m' d')(hco:CO w0 W' m' d' n' cv F co'):TY w0 W' gz g9 n' m' d' cv F co' mr r v x C now:=
 ⟨h.pp.op hst ht hco (fun _ _ hb=>hb),(ht.block h.b.lt h.f).trans h.b,ht.far h.b.lt h.f,hg.trans h.g⟩
end
theorem oX{w0 w:World}{m:DiskM}{d:DiskD}{n:Nat}{cv:Value}{F:List Nat}{co:Option CacheD}(h:CO w0 w m d n cv F co):Calls Tryz.prog 10 #[cv] w fun e w'=>e = .returned (.bool (KD co))∧w'=w:=by
 rcases h with ⟨h1,h2,hc⟩|⟨gc,gl,gi,bi,C,h1,h2,hc,h3,h4⟩
 ·subst h1 hc;exact nP w
 ·subst h1 hc;exact sQ h3
theorem K7{w0 w:World}{m:DiskM}{d:DiskD}{n:Nat}{cv:Value}{F:List Nat}{C:CacheD}(h:CO w0 w m d n cv F (some C))(dg:List Int)(now:Int)(hd:DigOk dg):Calls Tryz.prog 26 #[cv,.agg (u8s dg).toArray,.int .i64 now] w fun e w'=>e = .returned (.bool (fI C.E dg now))∧Below w.heap.size w w':=by
 rcases h with ⟨h1,h2,hc⟩|⟨gc,gl,gi,bi,C',h1,h2,hc,h3,h4⟩
 ·cases hc
 ·injection hc with hc
  subst h1 hc;exact L5 dg now h3 hd
theorem IQ{d:DiskD}{C:CacheD}{q:aW}{now:Int}(hb:C.L.brk=true):tR d (some C) q now=(d,some C)∧E5 d (some C) q now=if fI C.E q.1 now then 8 else 9:=by
 have h:=xU (d:=d) (h:=d.sec.length/2) (q:=q) (now:=now) hb;refine⟨?_,h.1⟩;show((insR d (d.sec.length/2) C q now).2.1,some (insR d (d.sec.length/2) C q now).2.2)=_;rw[h.2]
theorem zT{d:DiskD}{C:CacheD}{now:Int}(hb:C.L.brk=true):mV d (some C) now=(d,some C)∧BP d (some C) now=some (11,none):=by
 have h:=xV (d:=d) (h:=d.sec.length/2) (now:=now) hb;refine⟨?_,?_⟩
 ·show((cmpR d (d.sec.length/2) C now).2.1,some (cmpR d (d.sec.length/2) C now).2.2)=_;rw[h]
 ·show(cmpR d (d.sec.length/2) C now).1=_;rw[h]
theorem DI{w:World}{b off k:Nat}{A:Option Addr}{cap:Nat}{l:List Op21}(hs:Sn w 5 (.slice A l.length cap) l.length (l.flatMap aZ))(hk:k<l.length)(hA:A=some ⟨b,off,none⟩):w.rangeAt b (off+k*5) (aZ l[k]):=by
 obtain⟨b',off',hA',hr'⟩:=qK hs k hk;rw[hA] at hA';injection hA' with hA'
 injection hA' with h1 h2 _
 subst h1 h2;exact hr'
end
end Go.Proofs.YtombncedfleljaaGreat
