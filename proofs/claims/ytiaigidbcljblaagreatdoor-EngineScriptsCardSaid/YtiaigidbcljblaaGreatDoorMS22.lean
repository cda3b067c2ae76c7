import Derived.Test.YtiaigidbcljblaaGreatDoorMS19
set_option linter.unusedVariables false
set_option linter.unusedSimpArgs false
set_option maxRecDepth 100000
set_option maxHeartbeats 40000000
namespace Go.Proofs.YtiaigidbcljblaaGreatDoor
open Go.Proofs.Tryz
open Go.RowKit
attribute [local irreducible] wpQuiet wpAnyH
def VU:ByteArray:={ data:=#[112,114,111,116,101,99,116] }
def YG:ByteArray:={ data:=#[101,110,99,114,121,112,116] }
def mkE(key:Nat->Nat):List Nat:=yP (arr 16 key) YG
def mkM(key:Nat->Nat):List Nat:=(jI (arr 16 key) (1 :: bn VU)).take 32
theorem k7(key:Nat->Nat):(mkM key).length=32:=by
 unfold mkM;rw[jv,show(jI (arr 16 key) (1 :: bn VU)).length=32 from dF _];rfl
theorem tY{P:Program}{w:Wd}{fn:Func}{p u:Tmp}{ty j:TypeId}(h:fn.results=#[.cell p ty,.cell u j])(tmps:Wa){b x:Nat}{cs D:Wv}{d d':TypeDesc}(Z:tmps.getD p undef = .pointer (some ⟨b,0,none⟩))(O:tmps.getD u undef = .pointer (some ⟨x,0,none⟩))(V:w.rangeAt b 0 cs)(I:w.rangeAt x 0 D)
  (hu:P.underlying ty=some d) (hd:d.isRow=true) (hi:(P.info? ty).map (·.size)=some cs.length) (R:P.underlying j=some d') (J:d'.isRow=true) (K:(P.info? j).map (·.size)=some D.length):(results fn tmps).run P w = .ok (.tuple #[.agg cs.toArray,.agg D.toArray]) w:=by
 have h1:tmps[p]?.getD undef = .pointer (some ⟨b,0,none⟩):=by simpa using Z
 have U:tmps[u]?.getD undef = .pointer (some ⟨x,0,none⟩):=by simpa using O
 simp[results,h,h1,U,asAddr,Sem.run_bind,Result.andThen,run_loadVar_mid w b 0 ty cs d V hu hd hi,run_loadVar_mid w x 0 j D d' I R J K]
theorem K5(n:Nat)(f:Nat->Nat):n8 (arr n f)=arr n (c8 f):=by
 unfold n8 arr;rw[List.map_map];rfl
structure SXk(w W:Wd)(g:Nat)(key f:Nat->Nat):Prop where
 be:Bw w W
 lo:w.heap.size<=g
 k:AB W g 35 16 (c8 key)
 e:AB W (g+1) 35 16 (c8 λ_=>0)
 r:AB W (g+1+1) 25 32 (c8 λ_=>0)
 m:AB W (g+1+1+1) 25 32 (c8 f)
theorem SXk.drew{w W:Wd}{g:Nat}{key f:Nat->Nat}(h:SXk w W g key f):SXk w W.drew g key f:=⟨h.be.drew,h.lo,h.k,h.e,h.r,h.m⟩
theorem SXk.keep{w W W':Wd}{g:Nat}{key f:Nat->Nat}(h:SXk w W g key f)(hb:Bw W W'):SXk w W' g key f:=⟨h.be.trans (hb.mono h.be.size),h.lo,h.k.keep hb,h.e.keep hb,h.r.keep hb,h.m.keep hb⟩
theorem SXk.sn{w W:Wd}{g:Nat}{key f:Nat->Nat}(h:SXk w W g key f):Sn W 1 (.slice (some ⟨g,0,none⟩) (arr 16 key).length 16) (arr 16 key).length (n8 (arr 16 key)):=by
 rw[K5,aB];exact⟨_,16,rfl,ja _,by rw[aB],λ_=>⟨g,0,rfl,h.k.range⟩⟩
theorem CE(key:Nat->Nat)(w:Wd)(U:bG key)(hk:TabK w):Wc 219 #[.agg (arr 16 (c8 key)).toArray] w (Rt w (.tuple #[.agg (n8 (mkE key)).toArray,.agg (n8 (mkM key)).toArray])):=by
 have a8:Hid (Byn (arr 16 key)):=jz (λx hx=>by obtain⟨q,_,rfl⟩:=List.mem_map.1 hx;exact U q);have HK:=jz hk;clear U hk;go_enter func219,ntmps219
 go_upto_region 2 with (first
  | (refine al 35 _ rfl rfl fE ?_)
  | (refine al 25 _ rfl rfl B9 ?_))
 obtain⟨g,hg⟩:=je w.heap.size;obtain⟨w1,a6⟩:=je ((((w.alloc (.cells (arr 16 (c8 key)).toArray 35)).alloc (.cells z8x16 35)).alloc (.cells zC32 25)).alloc (.cells zC32 25));have a9:Hid (SXk w w1 g key (λ_=>0)):=jz (by
  rw[a6,hg]
  exact⟨((((ji _ w).alloc (ja _) _).alloc (by simp) _).alloc (by simp;omega) _).alloc (by simp;omega) _,ja _,(((Blk.new _ _ _).alloc _).alloc _).alloc _,((Blk.newAt _ _ _ _ (by simp)).alloc _).alloc _,(Blk.newAt _ _ _ _ (by simp)).alloc _,Blk.newAt _ _ _ _ (by simp)⟩)
 rw[<- a6];simp only[World.size_alloc,<- hg];clear a6 hg;have e0:prog.arrayLen 35=16:=by kernel_rfl
 have b7:prog.arrayLen 25=32:=by kernel_rfl
 obtain⟨wS,I⟩:=je w1.drew;have j:Hid (SXk w wS g key (λ_=>0)):=jz (by rw[I];exact a9.drew);have J:(arr 16 key).length=16:=aB _ _;have a0:=jz (vX (.slice (some ⟨g,0,none⟩) (arr 16 key).length 16) (arr 16 key) VU 32 wS j.sn a8 (by rw[J];omega) (by decide) (by omega) (by omega) (HK.below j.be));rw[J] at a0;refine kZ (n:=4) (λW=>True) trivial (h:=λhH=>?_);rw[<- I];clear I a9;refine qT 0 (.slice (some ⟨g+1+1+1,0,none⟩) 32 32) ?_;refine qT 1 (.slice (some ⟨g,0,none⟩) 16 16) ?_;refine kF 2 (some 7) ((a0).mono ?_) (hent:=by unfold execOp;go_simp;rfl);rintro e w2 ⟨v,rfl,V,c2⟩;refine⟨_,rfl,trivial,λhH=>?_⟩;simp only[jq];have a3:=jz (j.keep c2);refine kCp 3 (some 8) (dn:=32) (dc:=32) underlying68 (by kernel_rfl) (Sn.own V) (ja _) (a3.m.there (o:=0) (m:=32) (by omega)) (dU _) trivial (h:=?_);simp only[jq];refine kE (h:=?_);obtain⟨w3,a7⟩:=je (w2.setCells (g+1+1+1) 0 (n8 ((jI (arr 16 key) (1 :: bn VU)).take 32)));have b1:Hid (SXk w w3 g key (nth (mkM key))):=jz (by
  have h:=a3.out
  have e1:=h.lo
  rw[a7]
  refine⟨Below.setS (by omega) _ _ h.be,h.lo,h.k.farS (by omega) _ _,h.e.farS (by omega) _ _,h.r.farS (by omega) _ _,(h.m.setL (mkM key)).ext (λq hq=>?_)⟩
  show Value.int .u8 ((if 0<=q/\q<0+(mkM key).length then nth (mkM key) (q-0) else 0:Nat):Int)=Value.int .u8 ((nth (mkM key) q:Nat):Int)
  rw[jP (by rw[k7];omega),Nat.sub_zero])
 rw[<- a7];clear a7 V c2 a3 j a0 hH b7;go_upto_region 3 with fail
 obtain⟨wS,I⟩:=je w3.drew;have j:Hid (SXk w wS g key (nth (mkM key))):=jz (by rw[I];exact b1.drew);have K:=jz (UK (.slice (some ⟨g,0,none⟩) (arr 16 key).length 16) (arr 16 key) YG wS j.sn a8 (by rw[J];omega) (by decide) (HK.below j.be));rw[J] at K;have a4:n8 (mkM key)=arr 32 (c8 (nth (mkM key))):=BQ (k7 key);have R:(n8 (mkE key)).length=16:=by rw[aS];exact fX _ _
 have O:(n8 (mkM key)).length=32:=by rw[aS];exact k7 _
 have b0:Hid (n8 (yP (arr 16 key) YG)=n8 (mkE key)):=jz rfl;rw[b0.out] at K;obtain⟨E,hE⟩:=je (n8 (mkE key));obtain⟨M,hM⟩:=je (n8 (mkM key));have d5:∀ u∈E,u.oneCell'=true:=by rw[hE];exact dU _
 have d7:∀ u∈M,u.oneCell'=true:=by rw[hM];exact dU _
 rw[<- hE] at K R;rw[<- hM] at a4 O;have d0:=jz hE;have d2:=jz hM;have d1:=jz a4;clear hE hM a4 b1 b0;refine kZ (n:=5) (λW=>AB W (g+1+1+1) 25 32 (c8 (nth (mkM key)))) (by rw[<- I];exact j.m) (h:=λhH=>?_);rw[<- I] at hH ⊢;clear I;refine qT 0 (.slice (some ⟨g,0,none⟩) 16 16) ?_;refine qL 2 (cs:=M) (λW hX=>by rw[d1.out];exact AB.range hX) O ?_;refine kF 1 (some 10) ((K).mono ?_) (hent:=by unfold execOp;go_simp;rfl);rintro e w5 ⟨rfl,c3⟩;have D:=jz (j.keep c3);clear c3;refine⟨_,rfl,D.m,λhH=>?_⟩;simp only[jq];have a2:=jz (D.m.farS (show g+1+1+1≠g+1 by omega) 0 E);have a1:=jz (D.r.farS (show g+1+1≠g+1 by omega) 0 E);refine kR 3 none (n:=16) (cs:=E) (D.e.there (o:=0) (m:=16) (by omega)) R d5 a2 (h:=?_);simp only[jq];refine kR 4 none (n:=32) (cs:=M) (a1.there (o:=0) (m:=32) (by omega)) O d7 (a2.farS (show g+1+1+1≠g+1+1 by omega) _ _) (h:=?_);simp only[jq];refine kE (h:=?_);have c6:w5.there (g+1) 0 E.length:=by rw[R];exact D.e.there (by omega)
 have Z:(w5.setCells (g+1) 0 E).there (g+1+1) 0 M.length:=by rw[O];exact a1.there (by omega)
 have c4:=World.rangeAt_setCells_apart (World.rangeAt_setCells_same w5 (g+1) 0 E c6) (g+1+1) 0 M (.inl (by omega));have c5:=World.rangeAt_setCells_same (w5.setCells (g+1) 0 E) (g+1+1) 0 M Z;have a5:Bw w ((w5.setCells (g+1) 0 E).setCells (g+1+1) 0 M):=by
  have:=D.lo;exact Below.setS (by omega) _ _ (Below.setS (by omega) _ _ D.be)
 obtain⟨w9,c7⟩:=je ((w5.setCells (g+1) 0 E).setCells (g+1+1) 0 M);rw[<- c7] at c4 c5 a5 ⊢;have c9:=jz a5;clear c7 a5 c6 Z a1 a2 D K j;go_wp2_with fail
 exact bodyPost_ret (tY rfl _ rfl rfl c4 c5 underlying35 rfl (by rw[R];kernel_rfl) underlying25 rfl (by rw[O];kernel_rfl)) rfl ⟨by rw[d0.out,d2.out],c9⟩
end Go.Proofs.YtiaigidbcljblaaGreatDoor
