import Derived.Test.YtillkpjflcgkeaaGreatMT30
import Derived.Test.YtillkpjflcgkeaaGreatMT33
set_option linter.unusedSimpArgs false
set_option maxRecDepth 100000
namespace Go.Proofs.YtillkpjflcgkeaaGreat
open Go.RowKit
attribute [local irreducible] wpQuiet wpAnyH
def rpick (a b : SSt) : Bool := b.1.isSome && (!a.1.isSome || decide (a.1.getD 0 < b.1.getD 0))
def rscan (r : RefD) (f : Int) (n : Nat) : SSt := scanL (none, []) (rsecs r f n)
def ropenW (r : RefD) (x : SSt) (sd last : Nat) : RefD × RLog × Int :=
 if x.1.isSome then (r, ⟨true, sd, x.1.getD 0, last, x.2, false⟩, 0)
 else if last = 4294967295 then (r, rl0, 13)
 else if rwsA r 0 (rec (last + 1) toll) = 0 then (rwsD r 0 (rec (last + 1) toll), ⟨true, sd, last + 1, last, x.2, false⟩, 0)
 else (rwsD r 0 (rec (last + 1) toll), rl0, rwsA r 0 (rec (last + 1) toll))
def ropenS (r : RefD) (n : Nat) : RefD × RLog × Int :=
 ropenW r (if rpick (rscan r 0 n) (rscan r n n) then rscan r n n else rscan r 0 n) (if rpick (rscan r 0 n) (rscan r n n) then 1 else 0) (rlastN r r.sec.length)
def ropenR (r : RefD) : RefD × RLog × Int :=
 if r.sec.length / 2 < 1 then (r, rl0, 15) else if rsyncA r = 0 then ropenS (rsyncD r) (r.sec.length / 2) else (rsyncD r, rl0, rsyncA r)
theorem rsecs_sec {r : RefD} (h : ROk r) : ∀ (n : Nat) (f : Int), ∀ s ∈ rsecs r f n, Sec s
 | 0, _, s, hs => by cases hs
 | n + 1, f, s, hs => by
  rw [rsecs, List.mem_cons] at hs
  rcases hs with rfl | hs
  ·exact rdR_sec h f
  ·exact rsecs_sec h n (f + 1) s hs
theorem rscan_inv {r : RefD} (h : ROk r) (f : Int) (n : Nat) (hn : n ≤ 2048) : (rscan r f n).1.getD 0 < 4294967296 ∧ (rscan r f n).2.length ≤ 2048 := by
 have h1 := scanL_len (rsecs r f n) (none, [])
 rw [rsecs_length] at h1
 have h2 : (rscan r f n).2.length ≤ 0 + n := h1
 refine ⟨?_, by omega⟩
 cases hg : (rscan r f n).1 with
 | none => show 0 < _; omega
 | some g => exact scanL_gen (rsecs r f n) (none, []) (rsecs_sec h n f) (fun g hg => by cases hg) g hg
theorem rsync_code (r : RefD) : 0 ≤ rsyncA r ∧ rsyncA r ≤ 15 := by
 unfold rsyncA
 repeat' split
 all_goals omega
structure D19 (w W : World) (m0 : RM) (r0 : RefD) (m : RM) (r : RefD) (gd za zb : Nat) : Prop where
 d : Blk W gd 31 (refC m r)
 a : Blk W za 31 refZ
 b : Blk W zb 37 rlZ
 k : RK W m r
 bel : Below w.heap.size w W
 sub : ∀ b ∈ rowsOf m r, b ∈ rowsOf m0 r0 ∨ w.heap.size ≤ b
 nd : ∀ g, (g = gd ∨ g = za ∨ g = zb) → g ∉ rowsOf m r
 p : w.heap.size ≤ gd ∧ w.heap.size ≤ za ∧ w.heap.size ≤ zb ∧ gd ≠ za ∧ gd ≠ zb ∧ za ≠ zb
section
variable {w W W2 W3 : World} {m0 m m2 : RM} {r0 r r2 : RefD} {gd za zb : Nat}
theorem D19.keep (x : D19 w W m0 r0 m r gd za zb) (hb : Below W.heap.size W W2) : D19 w W2 m0 r0 m r gd za zb :=
 ⟨x.d.keep hb, x.a.keep hb, x.b.keep hb, x.k.keep hb, bstep x.bel hb, x.sub, x.nd, x.p⟩
theorem D19.disk (x : D19 w W m0 r0 m r gd za zb) (hk : RK W2 m2 r2) (hb : Below W.heap.size W W2) (hsub : ∀ b ∈ rowsOf m2 r2, b ∈ rowsOf m r ∨ W.heap.size ≤ b) (hB : Blk W3 gd 31 (refC m2 r2)) (hb3 : Below gd W2 W3) (ho : ∀ k, k ≠ gd → W3.heap[k]? = W2.heap[k]?) : D19 w W3 m0 r0 m2 r2 gd za zb := by
 have y := x.keep hb
 have p := x.p
 have hnd : ∀ g, (g = gd ∨ g = za ∨ g = zb) → g ∉ rowsOf m2 r2 := fun g hg hm => by
  rcases hsub g hm with h | h
  ·exact x.nd g hg h
  ·have h1 := x.d.lt; have h2 := x.a.lt; have h3 := x.b.lt
   rcases hg with rfl | rfl | rfl <;> omega
 exact ⟨hB, (ho za (fun e => p.2.2.2.1 e.symm)).trans y.a, (ho zb (fun e => p.2.2.2.2.1 e.symm)).trans y.b, hk.offK ho hb3.size (hnd gd (.inl rfl)), y.bel.trans (hb3.mono p.1), fun b hm => (hsub b hm).elim (x.sub b) (fun h => .inr (Nat.le_trans x.bel.size h)), hnd, p⟩
theorem D19.ret (x : D19 w W m0 r0 m r gd za zb) (h1 : Blk W2 za 31 (refC m r)) (h2 : Below za W W2) (h3 : ∀ k, k ≠ za → W2.heap[k]? = W.heap[k]?) (h5 : Below zb W2 W3) (h6 : ∀ k, k ≠ zb → W3.heap[k]? = W2.heap[k]?) : Blk W3 za 31 (refC m r) ∧ RK W3 m r ∧ Below w.heap.size w W3 ∧ ∀ b ∈ rowsOf m r, b ∈ rowsOf m0 r0 ∨ w.heap.size ≤ b :=
 ⟨(h6 za x.p.2.2.2.2.2).trans h1, (x.k.offK h3 h2.size (x.nd za (.inr (.inl rfl)))).offK h6 h5.size (x.nd zb (.inr (.inr rfl))), (x.bel.trans (h2.mono x.p.2.1)).trans (h5.mono x.p.2.2.1), x.sub⟩
theorem X19.d19 {v0 v : Value} {L : RLog} {gl : Nat} (x : X19 w W m0 r0 v0 m r v L gd gl za zb) : D19 w W m0 r0 m r gd za zb :=
 ⟨x.d, x.a, x.b, x.k, x.bel, x.sub, fun g hg => (x.nd g (hg.elim .inl (fun h => h.elim (fun h => .inr (.inr (.inl h))) (fun h => .inr (.inr (.inr h)))))).1, x.p.lo.1, x.p.lo.2.2.1, x.p.lo.2.2.2, x.p.n1.2.1, x.p.n1.2.2, x.p.n2.2.2⟩
theorem D19.log (x : D19 w W m0 r0 m r gd za zb) {v0 v : Value} {L : RLog} {gl : Nat} (hB : Blk W2 gl 37 (rlC v L)) (hb : Below W.heap.size W W2) (hg : W.heap.size ≤ gl) (hk : RLK W2 v L) (hv : ∀ b, v.ownBlock = some b → w.heap.size ≤ b ∧ b ≠ gd ∧ b ≠ gl ∧ b ≠ za ∧ b ≠ zb) : X19 w W2 m0 r0 v0 m r v L gd gl za zb := by
 have y := x.keep hb
 have h1 := x.d.lt; have h2 := x.a.lt; have h3 := x.b.lt
 have hs := x.bel.size
 refine ⟨y.d, hB, y.a, y.b, y.k, hk, y.bel, y.sub, fun b e => .inr (hv b e).1, fun g hg => ⟨?_, fun e => ?_⟩, ⟨⟨x.p.1, by omega, x.p.2.1, x.p.2.2.1⟩, ⟨by omega, x.p.2.2.2.1, x.p.2.2.2.2.1⟩, ⟨by omega, by omega, x.p.2.2.2.2.2⟩⟩⟩
 ·rcases hg with rfl | rfl | rfl | rfl
  ·exact x.nd _ (.inl rfl)
  ·exact fun hm => by have := x.k.bl _ hm; omega
  ·exact x.nd _ (.inr (.inl rfl))
  ·exact x.nd _ (.inr (.inr rfl))
 ·have h := hv g e
  rcases hg with rfl | rfl | rfl | rfl
  ·exact h.2.1 rfl
  ·exact h.2.2.1 rfl
  ·exact h.2.2.2.1 rfl
  ·exact h.2.2.2.2 rfl
end
theorem stC_one3' (st : SSt) {w : World} {v : Value} {n : Nat} {xs : List Value} (h : Sn w 33 v n xs) : (stC st v).all (·.oneCell') = true := by
 obtain ⟨_, _, e, _⟩ := h
 rw [e]
 exact stC_oneR st _ _ _
structure S19 (w W : World) (gS : Nat) (x : SSt) (v : Value) : Prop where
 b : Blk W gS 143 (stC x v)
 sn : Sn W 33 v x.2.length (x.2.flatMap entP)
 ok : ∀ q ∈ x.2, EntOk q
 lt : ∀ b, v.ownBlock = some b → w.heap.size ≤ b ∧ b < gS
theorem S19.keep {w W W2 : World} {gS : Nat} {x : SSt} {v : Value} (h : S19 w W gS x v) (hb : Below W.heap.size W W2) : S19 w W2 gS x v := ⟨h.b.keep hb, h.sn.below hb, h.ok, h.lt⟩
theorem S19.off {w W W2 : World} {gS g : Nat} {x : SSt} {v : Value} (h : S19 w W gS x v) (ho : ∀ k, k ≠ g → W2.heap[k]? = W.heap[k]?) (h1 : gS ≠ g) (h2 : v.ownBlock ≠ some g) : S19 w W2 gS x v := ⟨(ho gS h1).trans h.b, h.sn.offK ho h2, h.ok, h.lt⟩
structure T19 (W : World) (ga gl n3 : Nat) (x : SSt) (v : Value) : Prop where
 b : Blk W ga 143 (stC x v)
 sn : Sn W 33 v x.2.length (x.2.flatMap entP)
 ok : ∀ q ∈ x.2, EntOk q
 lt : ∀ b, v.ownBlock = some b → n3 ≤ b ∧ b ≠ ga ∧ b ≠ gl ∧ b < W.heap.size
 ne : ga ≠ gl
theorem T19.cell {W : World} {ga gl n3 : Nat} {x : SSt} {v : Value} (h : T19 W ga gl n3 x v) (i : Nat) (u : Value) : T19 (W.setCell ⟨gl, i, none⟩ u) ga gl n3 x v :=
 have ho : ∀ k, k ≠ gl → (W.setCell ⟨gl, i, none⟩ u).heap[k]? = W.heap[k]? := fun k hk => Below.heap_setCell W ⟨gl, i, none⟩ _ k hk
 ⟨(ho ga h.ne).trans h.b, h.sn.offK ho (fun e => (h.lt gl e).2.2.1 rfl), h.ok, fun b e => ⟨(h.lt b e).1, (h.lt b e).2.1, (h.lt b e).2.2.1, Nat.lt_of_lt_of_le (h.lt b e).2.2.2 ((Below.refl gl W).setCell (p := ⟨gl, i, none⟩) (Nat.le_refl _) u).size⟩, h.ne⟩
theorem X19.off {w W W2 : World} {m0 m : RM} {r0 r : RefD} {v0 v : Value} {L : RLog} {gd gl za zb g : Nat} (x : X19 w W m0 r0 v0 m r v L gd gl za zb) (hb : Below g W W2) (ho : ∀ k, k ≠ g → W2.heap[k]? = W.heap[k]?) (hg : w.heap.size ≤ g) (hne : ∀ h, (h = gd ∨ h = gl ∨ h = za ∨ h = zb) → h ≠ g) (hr : g ∉ rowsOf m r) (hv : v.ownBlock ≠ some g) : X19 w W2 m0 r0 v0 m r v L gd gl za zb :=
 ⟨(ho gd (hne _ (.inl rfl))).trans x.d, (ho gl (hne _ (.inr (.inl rfl)))).trans x.l, (ho za (hne _ (.inr (.inr (.inl rfl))))).trans x.a, (ho zb (hne _ (.inr (.inr (.inr rfl))))).trans x.b, x.k.offK ho hb.size hr, x.lk.same (fun b e => ho b (fun e2 => hv (e2 ▸ e))) hb.size, x.bel.trans (hb.mono hg), x.sub, x.vsub, x.nd, x.p⟩
set_option maxHeartbeats 16000000 in
theorem ref19_open (m : RM) (r : RefD) (w : World) (h : RK w m r) (hst : r.steps + 10 ≤ 1000000000) (ho : r.opn.length + 10 ≤ 50000) :
  Calls Tryz.prog 51 #[.agg (refC m r)] w fun e w' => ∃ m' v', e = .returned (.tuple #[.agg (refC m' (ropenR r).1), .agg (rlC v' (ropenR r).2.1), .int .i64 (ropenR r).2.2]) ∧ RK w' m' (ropenR r).1 ∧ RLK w' v' (ropenR r).2.1 ∧ Below w.heap.size w w' ∧ (∀ b ∈ rowsOf m' (ropenR r).1, b ∈ rowsOf m r ∨ w.heap.size ≤ b) ∧ ∀ b, v'.ownBlock = some b → (Value.slice none 0 0).ownBlock = some b ∨ w.heap.size ≤ b := by
 have hlenD : ∀ m r, (Tryz.prog.info? 31).map (·.size) = some (refC m r).toList.length := fun _ _ => refI
 have hlenL : ∀ v L, (Tryz.prog.info? 37).map (·.size) = some (rlC v L).toList.length := fun _ _ => rlI
 have hlenS : ∀ x v, (Tryz.prog.info? 143).map (·.size) = some (stC x v).toList.length := fun x v => stI x v
 obtain ⟨As, cs, es⟩ := h.sec.slc
 obtain ⟨w1, hw1⟩ : ∃ w1, w1 = ((w.alloc (.cells (refC m r) 31)).alloc (.cells refZ 31)).alloc (.cells rlZ 37) := ⟨_, rfl⟩
 have HX1 : Hid (D19 w w1 m r m r w.heap.size (w.heap.size + 1) (w.heap.size + 2)) := jz (by
  have hb : Below w.heap.size w w1 := by rw [hw1]; exact bstep (bstep (bel1 _ _) (bel1 _ _)) (bel1 _ _)
  exact ⟨by rw [hw1]; exact ((Blk.new _ _ _).alloc _).alloc _, by rw [hw1]; exact (Blk.newAt _ _ _ _ (by simp)).alloc _, by rw [hw1]; exact Blk.newAt _ _ _ _ (by simp), h.keep hb, hb, fun b hm => .inl hm, fun g hg hm => by have := h.bl g hm; omega, by omega, by omega, by omega, by omega, by omega, by omega⟩)
 have hsl : r.sec.length ≤ 4096 := h.ok.few
 have c0 : w1.cell? ⟨w.heap.size, 0, none⟩ = some (.slice As r.sec.length cs) := by
  have h0 : w1.cell? ⟨w.heap.size, 0, none⟩ = some m.sv := (HX1.out.d.cell 0).trans rfl
  rw [h0, es]
 obtain ⟨n, hn⟩ : ∃ n : Nat, n = r.sec.length / 2 := ⟨_, rfl⟩
 have HQN : Hid ((r.sec.length : Int) / 2 = (n : Int)) := jz (by omega)
 have HNN := Lib.hid hn
 have hn2 : n ≤ 2048 := by omega
 obtain ⟨N, hN⟩ : ∃ N, N = w.heap.size := ⟨_, rfl⟩
 have HN := Lib.hid hN
 have hzone := rlC_one (RLK.zero w)
 rw [rlC0] at hzone
 clear h hn es
 go_enter Tryz.func51, Tryz.ntmps51
 go_upto_region 1 with (first | (refine al 31 refZ rfl rfl zeroRef ?_) | (refine al 37 rlZ rfl rfl zeroRL ?_))
 rw [← hw1]
 clear hw1
 rw [← hN] at HX1 c0
 simp only [← hN]
 clear hN
 go_upto_region 2 with fail
 rw [HQN.out]
 have hr1 := HX1.out.d.range
 rcases Nat.lt_or_ge n 1 with h1 | h1
 ·have HF : Hid (ropenR r = (r, rl0, 15)) := jz (by unfold ropenR; rw [if_pos (by have := HNN.out; omega)])
  have h1i : (n : Int) < 1 := by omega
  have hrz := HX1.out.d.range
  go_wp2_with (first
   | (refine ld 31 _ rfl rfl rfl hrz Tryz.underlying31 rfl (hlenD _ _) ?_)
   | (refine bld 37 _ rfl rfl rfl builtRL0 ?_)
   | (refine stBlk (cells := refC m r) 31 (.tmp 2) (.tmp 16) rfl rfl rfl rfl HX1.out.a refI rfl (refC_one HX1.out.k) ?_; intro wy hBy hby hoy hsy; have HBy := Lib.hid hBy; have Hby := Lib.hid hby; have Hoy := Lib.hid hoy; clear hBy hby hoy hsy)
   | (refine stBlk (cells := rlZ) 37 (.tmp 3) (.tmp 17) rfl rfl rfl rfl ((Hoy.out _ (fun e => HX1.out.p.2.2.2.2.2 e.symm)).trans HX1.out.b) rlI rfl hzone ?_; intro wz hBz hbz hoz hsz; have HBz := Lib.hid hBz; have Hbz := Lib.hid hbz; have Hoz := Lib.hid hoz; clear hBz hbz hoz hsz))
  have hfin := HX1.out.ret HBy.out Hby.out Hoy.out Hbz.out Hoz.out
  exact bodyPost_ret (results_cell2 rfl _ rfl hfin.1.range Tryz.underlying31 rfl refI rfl HBz.out.range Tryz.underlying37 rfl rlI) rfl ⟨m, .slice none 0 0, by rw [HF.out]; rfl, by rw [HF.out]; exact hfin.2.1, by rw [HF.out]; exact RLK.zero wz, hfin.2.2.1, by rw [HF.out]; exact hfin.2.2.2, fun b e => by cases e⟩
 ·have h1i : (1 : Int) ≤ n := by omega
  have HP := jz (ref_sync m r w1 HX1.out.k (by omega))
  obtain ⟨hc0, hc15⟩ := rsync_code r
  have HRR : Hid (ropenR r = if rsyncA r = 0 then ropenS (rsyncD r) n else (rsyncD r, rl0, rsyncA r)) := jz (by unfold ropenR; rw [if_neg (by have := HNN.out; omega), ← HNN.out])
  have hrb := rsync_b r
  have hsl2 := rsyncD_len r
  obtain ⟨c, hc⟩ : ∃ c, c = rsyncA r := ⟨_, rfl⟩
  obtain ⟨r2, hr2⟩ : ∃ r2, r2 = rsyncD r := ⟨_, rfl⟩
  rw [← hc, ← hr2] at HP HRR
  rw [← hc] at hc0 hc15
  rw [← hr2] at hrb hsl2
  have hst2 : r2.steps ≤ r.steps + (1 : Nat) := hrb.1
  have hop2 : r2.opn.length ≤ r.opn.length + 1 := hrb.2.1
  have HSL := Lib.hid hsl2
  clear hc hr2 hrb hsl2
  go_upto_region 5 with (first
   | (refine ld 31 _ rfl rfl rfl hr1 Tryz.underlying31 rfl (hlenD _ _) ?_)
   | (go_at_call 71; refine HP.out.mono ?_; rintro e w2 ⟨m2, rfl, hk2, hb2, hs2'⟩)
   | (refine stBlk (cells := refC m2 r2) 31 (.tmp 1) (.tmp 21) rfl rfl rfl rfl (HX1.out.d.keep hb2) refI rfl (refC_one hk2) ?_; intro w3 hB3 hb3 ho3 hs3))
  have HX3 := jz (HX1.out.disk hk2 hb2 hs2' hB3 hb3 ho3)
  clear hk2 hb2 hs2' hB3 hb3 ho3 hs3 HP hr1 c0
  have hr3 := HX3.out.d.range
  rcases Bool.eq_false_or_eq_true (c == 0) with t0 | t0
  ·obtain rfl : c = 0 := by simpa using t0
   have HR2 : Hid (ropenR r = ropenS r2 n) := jz (by rw [HRR.out, if_pos rfl])
   clear t0 HRR hc0 hc15
   have HSA := jz (ref18_scan m2 r2 0 n w3 HX3.out.k ⟨by omega, by omega⟩ h1 (by omega))
   have hiA := rscan_inv HX3.out.k.ok 0 n hn2
   have hiB := rscan_inv HX3.out.k.ok n n hn2
   have HSV : Hid (ropenS r2 n = ropenW r2 (if rpick (rscan r2 0 n) (rscan r2 n n) then rscan r2 n n else rscan r2 0 n) (if rpick (rscan r2 0 n) (rscan r2 n n) then 1 else 0) (rlastN r2 r2.sec.length)) := Lib.hid rfl
   have hla := rlastN_lt HX3.out.k.ok r2.sec.length
   have HSB := jz (fun W (k : RK W m2 r2) => ref18_scan m2 r2 n n W k ⟨by omega, by omega⟩ h1 (by omega))
   have HLA := jz (fun W (k : RK W m2 r2) => ref19_last m2 r2 W k)
   obtain ⟨SA, hSA⟩ : ∃ x, x = rscan r2 0 n := ⟨_, rfl⟩
   obtain ⟨SB, hSB⟩ : ∃ x, x = rscan r2 n n := ⟨_, rfl⟩
   obtain ⟨la, hla'⟩ : ∃ x, x = rlastN r2 r2.sec.length := ⟨_, rfl⟩
   have e1 : scanL (none, []) (rsecs r2 0 n) = SA := hSA.symm
   have e2 : scanL (none, []) (rsecs r2 n n) = SB := hSB.symm
   rw [e1] at HSA
   rw [e2] at HSB
   rw [← hSA, ← hSB, ← hla'] at HSV
   rw [← hSA] at hiA
   rw [← hSB] at hiB
   rw [← hla'] at hla HLA
   clear hSA hSB hla' e1 e2
   go_upto_region 8 with (first
    | (refine ld 31 _ rfl rfl rfl hr3 Tryz.underlying31 rfl (hlenD _ _) ?_)
    | (go_at_call 72; refine HSA.out.mono ?_; rintro e w4 ⟨hb4, vA, rfl, hoA, hokA⟩)
    | (refine al 143 stZ rfl rfl zeroS18 ?_)
    | (refine stNew (cells := stC SA vA) 143 (.tmp 7) (.tmp 30) rfl rfl rfl rfl (stI _ _) rfl (stC_one3' SA (Sn.own hoA)) ?_; intro w5 hB5 hb5 hs5))
   have HX5 := jz (HX3.out.keep (bstep hb4 hb5))
   have HSA5 : Hid (S19 w3 w5 w4.heap.size SA vA) := Lib.hid ⟨hB5, (Sn.own hoA).below hb5, hokA, fun b e => (hoA.lt b e)⟩
   have HGA : Hid (w3.heap.size ≤ w4.heap.size ∧ w4.heap.size < w5.heap.size) := Lib.hid ⟨hb4.size, by omega⟩
   obtain ⟨ga, hga⟩ : ∃ g, g = w4.heap.size := ⟨_, rfl⟩
   rw [← hga] at HSA5 HGA ⊢
   have hr5 := HX5.out.d.range
   clear hb4 hoA hokA hB5 hb5 hs5 hga HSA hr3
   go_upto_region 9 with (first
    | (refine ld 31 _ rfl rfl rfl hr5 Tryz.underlying31 rfl (hlenD _ _) ?_)
    | (go_at_call 72; refine (HSB.out w5 HX5.out.k).mono ?_; rintro e w6 ⟨hb6, vB, rfl, hoB, hokB⟩)
    | (refine al 143 stZ rfl rfl zeroS18 ?_)
    | (refine stNew (cells := stC SB vB) 143 (.tmp 8) (.tmp 34) rfl rfl rfl rfl (stI _ _) rfl (stC_one3' SB (Sn.own hoB)) ?_; intro w7 hB7 hb7 hs7))
   have HX7 := jz (HX5.out.keep (bstep hb6 hb7))
   have HSA7 := jz (HSA5.out.keep (bstep hb6 hb7))
   have HSB7 : Hid (S19 w5 w7 w6.heap.size SB vB) := Lib.hid ⟨hB7, (Sn.own hoB).below hb7, hokB, fun b e => (hoB.lt b e)⟩
   have HGB : Hid (w5.heap.size ≤ w6.heap.size ∧ w6.heap.size < w7.heap.size) := Lib.hid ⟨hb6.size, by omega⟩
   obtain ⟨gb, hgb⟩ : ∃ g, g = w6.heap.size := ⟨_, rfl⟩
   rw [← hgb] at HSB7 HGB ⊢
   have hr7 := HX7.out.d.range
   clear hb6 hoB hokB hB7 hb7 hs7 hgb HSB hr5 HX5 HSA5
   have hone9 : (rlC (.slice none 0 0) ⟨true, 0, 0, la, [], false⟩).all (·.oneCell') = true := rlC_one (w := w3) ⟨⟨none, 0, rfl, Nat.le_refl _, rfl, fun h => absurd h (by simp)⟩, (fun q hq => by cases hq), Nat.zero_le _, (by show 0 < 2; omega), (by show 0 < 4294967296; omega), hla, fun b e => by cases e⟩
   go_upto_region 10 with (first
    | (refine ld 31 _ rfl rfl rfl hr7 Tryz.underlying31 rfl (hlenD _ _) ?_)
    | (go_at_call 73; refine (HLA.out w7 HX7.out.k).mono ?_; rintro e w8 ⟨rfl, hb8⟩)
    | (refine bld 37 _ rfl rfl rfl (builtRL la) ?_)
    | (refine al 37 rlZ rfl rfl zeroRL ?_)
    | (refine stNew (cells := rlC (.slice none 0 0) ⟨true, 0, 0, la, [], false⟩) 37 (.tmp 9) (.tmp 37) rfl rfl rfl rfl rlI rfl hone9 ?_; intro w9 hB9 hb9 hs9))
   have hb79 := bstep hb8 hb9
   have HX9 : Hid (X19 w w9 m r (.slice none 0 0) m2 r2 (.slice none 0 0) ⟨true, 0, 0, la, [], false⟩ N w8.heap.size (N + 1) (N + 2)) := jz (HX7.out.log hB9 hb79 hb8.size ⟨⟨none, 0, rfl, Nat.le_refl _, rfl, fun h => absurd h (by simp)⟩, (fun q hq => by cases hq), Nat.zero_le _, (by show 0 < 2; omega), (by show 0 < 4294967296; omega), hla, fun b e => by cases e⟩ (fun b e => by cases e))
   have HSA9 := jz (HSA7.out.keep hb79)
   have HSB9 := jz (HSB7.out.keep hb79)
   obtain ⟨gl, hgl⟩ : ∃ g, g = w8.heap.size := ⟨_, rfl⟩
   have HGL : Hid (w7.heap.size ≤ gl) := jz (by rw [hgl]; exact hb8.size)
   rw [← hgl] at HX9 ⊢
   have HRL : Hid (∀ b ∈ rowsOf m2 r2, b < w3.heap.size) := Lib.hid HX3.out.k.bl
   have HWS : Hid (w.heap.size ≤ w3.heap.size) := Lib.hid HX3.out.bel.size
   have HN3 : Hid (N + 2 < w3.heap.size) := Lib.hid HX3.out.b.lt
   clear hb8 hB9 hb9 hs9 hb79 hgl HLA hr7 HX7 HSA7 HSB7 hone9 HX3
   have a0 : w9.cell? ⟨ga, 0, none⟩ = some (.bool SA.1.isSome) := (HSA9.out.b.cell 0).trans rfl
   have a1 : w9.cell? ⟨ga, 1, none⟩ = some (.int .u32 (SA.1.getD 0 : Nat)) := (HSA9.out.b.cell 1).trans rfl
   have b0 : w9.cell? ⟨gb, 0, none⟩ = some (.bool SB.1.isSome) := (HSB9.out.b.cell 0).trans rfl
   have b1 : w9.cell? ⟨gb, 1, none⟩ = some (.int .u32 (SB.1.getD 0 : Nat)) := (HSB9.out.b.cell 1).trans rfl
   obtain ⟨pk, hpk⟩ : ∃ b : Bool, b = rpick SA SB := ⟨_, rfl⟩
   rw [← hpk] at HSV
   have HPK := Lib.hid hpk
   clear hpk
   simp only [j1, j2, j3, j4, j5]
   go_cut [51] from 38 to 51 (fun x W => x = .bool pk ∧ W = w9)
   case first =>
    obtain ⟨va, hva⟩ : ∃ b : Bool, b = SA.1.isSome := ⟨_, rfl⟩
    obtain ⟨vb, hvb⟩ : ∃ b : Bool, b = SB.1.isSome := ⟨_, rfl⟩
    obtain ⟨na, hna⟩ : ∃ b : Nat, b = SA.1.getD 0 := ⟨_, rfl⟩
    obtain ⟨nb, hnb⟩ : ∃ b : Nat, b = SB.1.getD 0 := ⟨_, rfl⟩
    have HPV : Hid (pk = (vb && (!va || decide (na < nb)))) := jz (by rw [HPK.out, hva, hvb, hna, hnb]; rfl)
    rw [← hva] at a0
    rw [← hvb] at b0
    rw [← hna] at a1
    rw [← hnb] at b1
    clear hva hvb hna hnb hiA hiB
    cases vb with
    | false =>
     go_wp2_with fail
     go_meet
     exact ⟨by rw [HPV.out]; rfl, rfl⟩
    | true =>
     cases va with
     | false =>
      go_wp2_with fail
      go_meet
      exact ⟨by rw [HPV.out]; rfl, rfl⟩
     | true =>
      rcases Nat.lt_or_ge na nb with hlt | hge
      ·have hi : (na : Int) < nb := by omega
       go_wp2_with fail
       go_meet
       exact ⟨by rw [HPV.out, decide_eq_true hlt]; rfl, rfl⟩
      ·have hi : (nb : Int) ≤ na := by omega
       go_wp2_with fail
       go_meet
       exact ⟨by rw [HPV.out, decide_eq_false (Nat.not_lt.2 hge)]; rfl, rfl⟩
   case rest =>
   obtain ⟨rfl, hwc⟩ := hcut
   rw [hwc]
   clear hwc a0 a1 b0 b1
   obtain ⟨SX, hSX⟩ : ∃ x, x = if pk then SB else SA := ⟨_, rfl⟩
   obtain ⟨sd, hsd⟩ : ∃ x : Nat, x = if pk then 1 else 0 := ⟨_, rfl⟩
   rw [← hSX, ← hsd] at HSV
   have HSX := Lib.hid hSX
   have HSD := Lib.hid hsd
   have hsd2 : sd < 2 := by rw [hsd]; split <;> omega
   have hiX : SX.1.getD 0 < 4294967296 ∧ SX.2.length ≤ 2048 := by rw [hSX]; split <;> assumption
   clear hSX hsd
   go_upto_if 51 with fail
   go_cut [] from 52 to 53 (fun W => ∃ vX, Hid (X19 w W m r (.slice none 0 0) m2 r2 (.slice none 0 0) ⟨true, sd, 0, la, [], false⟩ N gl (N + 1) (N + 2) ∧ T19 W ga gl w3.heap.size SX vX))
   case first =>
    have hgagl : ga ≠ gl := by have h2 := HGA.out; have h3 := HGB.out; have h4 := HGL.out; omega
    cases pk with
    | false =>
     have e1 : SX = SA := HSX.out
     have e2 : sd = 0 := HSD.out
     subst e1 e2
     go_wp2_with fail
     go_meet
     exact ⟨vA, Lib.hid ⟨HX9.out, HSA9.out.b, HSA9.out.sn, HSA9.out.ok, fun b e => ⟨(HSA9.out.lt b e).1, fun e2 => by have := (HSA9.out.lt b e).2; omega, fun e2 => by have h1 := (HSA9.out.lt b e).2; have h2 := HGA.out; have h3 := HGB.out; have h4 := HGL.out; omega, by have h1 := (HSA9.out.lt b e).2; have h5 := HSA9.out.b.lt; omega⟩, hgagl⟩⟩
    | true =>
     have e1 : SX = SB := HSX.out
     have e2 : sd = 1 := HSD.out
     subst e1 e2
     have c1 : w9.cell? ⟨gl, 1, none⟩ = some (.int .i64 0) := (HX9.out.l.cell 1).trans rfl
     have f1 := HX9.out.l.frozen 1
     have hgl9 := HX9.out.l.lt
     go_upto_region 12 with fail
     obtain ⟨wa, hwa⟩ : ∃ wa, wa = w9.setCell ⟨gl, 1, none⟩ (.int .i64 1) := ⟨_, rfl⟩
     have hoa : ∀ k, k ≠ gl → wa.heap[k]? = w9.heap[k]? := fun k hk => by rw [hwa]; exact Below.heap_setCell w9 ⟨gl, 1, none⟩ _ k hk
     have hXa : X19 w wa m r (.slice none 0 0) m2 r2 (.slice none 0 0) ⟨true, 1, 0, la, [], false⟩ N gl (N + 1) (N + 2) := by rw [hwa]; exact HX9.out.cell 1 _ ⟨HX9.out.lk.sn, HX9.out.lk.ok, HX9.out.lk.ln, (by show 1 < 2; omega), (by show 0 < 4294967296; omega), HX9.out.lk.last, HX9.out.lk.lt⟩ (fun _ e => .inl e) rfl
     have hAa : S19 w3 wa ga SA vA := HSA9.out.off hoa hgagl (fun e => by have h1 := (HSA9.out.lt _ e).2; have h2 := HGA.out; have h3 := HGB.out; have h4 := HGL.out; omega)
     have hBa : S19 w5 wa gb SX vB := HSB9.out.off hoa (by have h3 := HGB.out; have h4 := HGL.out; omega) (fun e => by have h1 := (HSB9.out.lt _ e).2; have h3 := HGB.out; have h4 := HGL.out; omega)
     rw [← hwa]
     have HXa := Lib.hid hXa
     have HAa := Lib.hid hAa
     have HBa := Lib.hid hBa
     have hrb := hBa.b.range
     clear hwa c1 f1 hgl9 hoa hXa hAa hBa
     go_wp2_with (first
      | (refine ld 143 _ rfl rfl rfl hrb Tryz.underlying143 rfl (hlenS _ _) ?_)
      | (refine stBlk (cells := stC SX vB) 143 (.tmp 7) (.tmp 53) rfl rfl rfl rfl HAa.out.b (stI _ _) rfl (stC_one3' SX HBa.out.sn) ?_; intro wb hBb hbb hob hsb; have HBb := Lib.hid hBb; have Hbb := Lib.hid hbb; have Hob := Lib.hid hob; clear hBb hbb hob hsb))
     go_meet
     have hne : ∀ g, (g = N ∨ g = gl ∨ g = N + 1 ∨ g = N + 2) → g ≠ ga := fun g hg e => by
      have h2 := HGA.out; have h3 := HGB.out; have h4 := HGL.out; have h5 := HN3.out
      rcases hg with h | h | h | h <;> omega
     refine ⟨vB, Lib.hid ⟨HXa.out.off Hbb.out Hob.out (by have := HGA.out; have := HWS.out; omega) hne (fun hm => by have h1 := HRL.out _ hm; have h2 := HGA.out; omega) (fun e => by cases e), HBb.out, HBa.out.sn.offK Hob.out (fun e => by have h1 := (HBa.out.lt _ e).1; have h2 := HGA.out; omega), HBa.out.ok, fun b e => ?_, hgagl⟩⟩
     have h1 := HBa.out.lt b e
     have h2 := HGA.out
     have h3 := HGB.out
     have h4 := HGL.out
     have h5 := HBa.out.b.lt
     have h6 := Hbb.out.size
     exact ⟨by omega, by omega, by omega, by omega⟩
   case rest =>
   obtain ⟨vX, HQ⟩ := hcut
   rename World => wb
   obtain ⟨Ax, cx, evx⟩ := HQ.out.2.sn.slc
   subst evx
   have HXb := Lib.hid HQ.out.1
   have HTb := Lib.hid HQ.out.2
   obtain ⟨gX, hgX⟩ : ∃ g : Nat, g = SX.1.getD 0 := ⟨_, rfl⟩
   have HGX := Lib.hid hgX
   have hgX4 : gX < 4294967296 := by rw [hgX]; exact hiX.1
   have hl2048 : SX.2.length ≤ 2048 := hiX.2
   have a1 : wb.cell? ⟨ga, 1, none⟩ = some (.int .u32 (gX : Int)) := (HTb.out.b.cell 1).trans (by rw [hgX]; rfl)
   have c2 : wb.cell? ⟨gl, 2, none⟩ = some (.int .u32 0) := (HXb.out.l.cell 2).trans rfl
   have f2 := HXb.out.l.frozen 2
   have hglb := HXb.out.l.lt
   clear HQ HSA9 HSB9 HX9 HPK hiX hiA hiB hgX
   go_upto_region 14 with fail
   obtain ⟨wc', hwc⟩ : ∃ W, W = wb.setCell ⟨gl, 2, none⟩ (.int .u32 (gX : Int)) := ⟨_, rfl⟩
   have HXc : Hid (X19 w wc' m r (.slice none 0 0) m2 r2 (.slice none 0 0) ⟨true, sd, gX, la, [], false⟩ N gl (N + 1) (N + 2)) := jz (by rw [hwc]; exact HXb.out.cell 2 _ ⟨HXb.out.lk.sn, HXb.out.lk.ok, HXb.out.lk.ln, HXb.out.lk.side, hgX4, HXb.out.lk.last, HXb.out.lk.lt⟩ (fun _ e => .inl e) rfl)
   have HTc : Hid (T19 wc' ga gl w3.heap.size SX (.slice Ax SX.2.length cx)) := jz (by rw [hwc]; exact HTb.out.cell 2 _)
   rw [← hwc]
   have a2 : wc'.cell? ⟨ga, 2, none⟩ = some (.slice Ax SX.2.length cx) := (HTc.out.b.cell 2).trans rfl
   have c4 : wc'.cell? ⟨gl, 4, none⟩ = some (.slice none 0 0) := (HXc.out.l.cell 4).trans rfl
   have f4 := HXc.out.l.frozen 4
   have hglc := HXc.out.l.lt
   clear hwc a1 c2 f2 hglb HXb HTb
   go_upto_region 15 with fail
   obtain ⟨wd, hwd⟩ : ∃ W, W = wc'.setCell ⟨gl, 4, none⟩ (.slice Ax SX.2.length cx) := ⟨_, rfl⟩
   have HXd : Hid (X19 w wd m r (.slice none 0 0) m2 r2 (.slice Ax SX.2.length cx) ⟨true, sd, gX, la, SX.2, false⟩ N gl (N + 1) (N + 2)) := jz (by
    rw [hwd]
    exact HXc.out.cell 4 (.slice Ax SX.2.length cx) ⟨HTc.out.sn, HTc.out.ok, by show SX.2.length ≤ 10000; omega, HXc.out.lk.side, hgX4, HXc.out.lk.last, fun b e => (HTc.out.lt b e).2.2.2⟩ (fun b e => .inr (by
     have h1 := HTc.out.lt b e
     have h2 := HWS.out
     have h3 := HN3.out
     exact ⟨by omega, by omega, h1.2.2.1, by omega, by omega⟩)) rfl)
   have HTd : Hid (T19 wd ga gl w3.heap.size SX (.slice Ax SX.2.length cx)) := jz (by rw [hwd]; exact HTc.out.cell 4 _)
   rw [← hwd]
   have a0 : wd.cell? ⟨ga, 0, none⟩ = some (.bool SX.1.isSome) := (HTd.out.b.cell 0).trans rfl
   clear hwd a2 c4 f4 hglc HXc HTc
   cases hsome : SX.1.isSome with
   | true =>
    rw [hsome] at a0
    have HF : Hid ((ropenR r).2.2 = 0 ∧ (ropenR r).1 = r2 ∧ (ropenR r).2.1 = ⟨true, sd, gX, la, SX.2, false⟩) := jz (by rw [HR2.out, HSV.out]; unfold ropenW; rw [hsome, HGX.out]; exact ⟨rfl, rfl, rfl⟩)
    clear hsome
    go_upto_region 16 with fail
    go_cut [4] from 62 to 63 (fun x W => x = .int .i64 0 ∧ Hid (R2 w.heap.size wd W (N + 1) (N + 2) 31 37 (refC m2 r2) (rlC (.slice Ax SX.2.length cx) (⟨true, sd, gX, la, SX.2, false⟩))))
    case first =>
     obtain ⟨wS, hwS⟩ : ∃ wS, wS = wd.drew := ⟨_, rfl⟩
     have hbS : Below wd.heap.size wd wS := by rw [hwS]; exact (Below.refl _ _).drew
     have HRS : Hid (R2 w.heap.size wd wS (N + 1) (N + 2) 31 37 refZ rlZ) := jz ((R2.start HXd.out.a HXd.out.b HXd.out.p.n2.2.2 ⟨HXd.out.p.lo.2.2.1, HXd.out.p.lo.2.2.2⟩).keep hbS)
     have HDO : Hid (∀ xA xB W, R2 w.heap.size wd W (N + 1) (N + 2) 31 37 xA xB → Blk W (N) 31 (refC m2 r2) ∧ Blk W (gl) 37 (rlC (.slice Ax SX.2.length cx) ⟨true, sd, gX, la, SX.2, false⟩)) := jz (fun xA xB W k => ⟨k.old HXd.out.d HXd.out.p.n1.2.1 HXd.out.p.n1.2.2, k.old HXd.out.l HXd.out.p.n2.1 HXd.out.p.n2.2.1⟩)
     have HOD : Hid (∀ u ∈ (refC m2 r2).toList, u.oneCell' = true) := jz (fun u hu => by have := refC_one HXd.out.k; rw [Array.all_eq_true_iff_forall_mem] at this; exact this u (by simpa using hu))
     have HOL : Hid (∀ u ∈ (rlC (.slice Ax SX.2.length cx) (⟨true, sd, gX, la, SX.2, false⟩)).toList, u.oneCell' = true) := jz (fun u hu => by have := rlC_one (L := ⟨true, sd, gX, la, SX.2, false⟩) (HXd.out.lk); rw [Array.all_eq_true_iff_forall_mem] at this; exact this u (by simpa using hu))
     clear hbS
     refine held_start 5 (fun W => Blk W (N) 31 (refC m2 r2) ∧ Blk W (gl) 37 (rlC (.slice Ax SX.2.length cx) ⟨true, sd, gX, la, SX.2, false⟩)) (by kernel_rfl) (by kernel_rfl) (by rw [← hwS]; exact HDO.out _ _ _ HRS.out) (fun hHeld => ?_)
     rw [← hwS] at hHeld ⊢
     clear hwS
     refine jL 0 31 (.tmp 1) (some 62) (cs := (refC m2 r2).toList) (fun _ hX => hX.1.range) Tryz.underlying31 rfl (hlenD _ _) hHeld ?_
     simp only [j1, j2, j3, j4, j5]
     refine jL 1 37 (.tmp 9) (some 63) (cs := (rlC (.slice Ax SX.2.length cx) ⟨true, sd, gX, la, SX.2, false⟩).toList) (fun _ hX => hX.2.range) Tryz.underlying37 rfl (hlenL _ _) hHeld ?_
     simp only [j1, j2, j3, j4, j5]
     refine jW [2] ?_
     refine jR 2 31 (.tmp 2) (.tmp 62) none (cs := (refC m2 r2).toList) (there_all HRS.out.a rfl) (hlenD _ _) (HOD.out) (HDO.out _ _ _ (jz (HRS.out.stA ((refC m2 r2).toList) rfl)).out) ?_ jN
     simp only [j1, j2, j3, j4, j5]
     obtain ⟨wk1, hwk1⟩ : ∃ wx, wx = (wS.setCells (N + 1) 0 ((refC m2 r2).toList)) := ⟨_, rfl⟩
     have HR1 := jz (HRS.out.stA ((refC m2 r2).toList) rfl)
     rw [← hwk1] at HR1 ⊢
     clear hwk1
     refine jW [3] ?_
     refine jR 3 37 (.tmp 3) (.tmp 63) none (cs := (rlC (.slice Ax SX.2.length cx) (⟨true, sd, gX, la, SX.2, false⟩)).toList) (there_all HR1.out.b rfl) (hlenL _ _) (HOL.out) (HDO.out _ _ _ (jz (HR1.out.stB ((rlC (.slice Ax SX.2.length cx) (⟨true, sd, gX, la, SX.2, false⟩)).toList) rfl)).out) ?_ jN
     simp only [j1, j2, j3, j4, j5]
     obtain ⟨wk2, hwk2⟩ : ∃ wx, wx = (wk1.setCells (N + 2) 0 ((rlC (.slice Ax SX.2.length cx) (⟨true, sd, gX, la, SX.2, false⟩)).toList)) := ⟨_, rfl⟩
     have HR2 := jz (HR1.out.stB ((rlC (.slice Ax SX.2.length cx) (⟨true, sd, gX, la, SX.2, false⟩)).toList) rfl)
     rw [← hwk2] at HR2 ⊢
     clear hwk2
     refine jT 4 (.assign (.const (.int .i64 0))) (some 4) (.int .i64 0) (HDO.out _ _ _ HR2.out) ?_
     simp only [j1, j2, j3, j4, j5]
     refine wpAnyH_done (by kernel_rfl) ?_ _
     go_wp2_with fail
     go_meet
     exact ⟨rfl, HR2⟩
    case rest =>
     obtain ⟨rfl, HRR⟩ := hcut
     rename World => wz
     have hfin := HXd.out.ret HRR.out (HXd.out.lk) (fun _ e => e)
     go_wp2_with fail
     exact bodyPost_ret (results_cell2 rfl _ rfl HRR.out.a.range Tryz.underlying31 rfl refI rfl HRR.out.b.range Tryz.underlying37 rfl rlI) rfl ⟨m2, (.slice Ax SX.2.length cx), by rw [HF.out.1, HF.out.2.1, HF.out.2.2]; rfl, by rw [HF.out.2.1]; exact hfin.1, by rw [HF.out.2.2]; exact hfin.2.1, hfin.2.2.1, by rw [HF.out.2.1]; exact hfin.2.2.2.1, hfin.2.2.2.2⟩
   | false =>
   rw [hsome] at a0
   have c3 : wd.cell? ⟨gl, 3, none⟩ = some (.int .u32 la) := (HXd.out.l.cell 3).trans rfl
   rcases Nat.lt_or_ge la 4294967295 with hlt | hge
   ·have hlai : (la : Int) < 4294967295 := by omega
    have HR3 : Hid (ropenR r = if rwsA r2 0 (rec (la + 1) toll) = 0 then (rwsD r2 0 (rec (la + 1) toll), ⟨true, sd, la + 1, la, SX.2, false⟩, 0) else (rwsD r2 0 (rec (la + 1) toll), rl0, rwsA r2 0 (rec (la + 1) toll))) := jz (by rw [HR2.out, HSV.out]; unfold ropenW; rw [hsome]; simp only [Bool.false_eq_true, if_false]; rw [if_neg (by omega)])
    have c2 : wd.cell? ⟨gl, 2, none⟩ = some (.int .u32 (gX : Int)) := (HXd.out.l.cell 2).trans rfl
    have f2 := HXd.out.l.frozen 2
    have hgld := HXd.out.l.lt
    have hlae : ((la : Int) == 4294967295) = false := by rw [beq_eq_false_iff_ne]; omega
    have HLT := Lib.hid hlt
    have HHL := Lib.hid hla
    clear hsome hlt hla
    go_upto_region 20 with fail
    have hla := HHL.out
    obtain ⟨we, hwe⟩ : ∃ W, W = wd.setCell ⟨gl, 2, none⟩ (.int .u32 ((la : Int) + 1)) := ⟨_, rfl⟩
    have HXe : Hid (X19 w we m r (.slice none 0 0) m2 r2 (.slice Ax SX.2.length cx) ⟨true, sd, la + 1, la, SX.2, false⟩ N gl (N + 1) (N + 2)) := jz (by rw [hwe]; exact HXd.out.cell 2 _ ⟨HXd.out.lk.sn, HXd.out.lk.ok, HXd.out.lk.ln, HXd.out.lk.side, by show la + 1 < 4294967296; omega, HXd.out.lk.last, HXd.out.lk.lt⟩ (fun _ e => .inl e) rfl)
    rw [← hwe]
    clear hwe c2 f2 hgld c3 a0 HXd HTd
    have e2 : we.cell? ⟨gl, 2, none⟩ = some (.int .u32 ((la : Int) + 1)) := (HXe.out.l.cell 2).trans rfl
    have HP := jz (ref_commit m2 r2 0 (la + 1) we HXe.out.k ⟨by omega, by omega⟩ (by omega) (by omega))
    obtain ⟨hd0, hd15⟩ := rws_code r2 0 (rec (la + 1) toll)
    obtain ⟨c2, hc2⟩ : ∃ c2, c2 = rwsA r2 0 (rec (la + 1) toll) := ⟨_, rfl⟩
    obtain ⟨r4, hr4⟩ : ∃ r4, r4 = rwsD r2 0 (rec (la + 1) toll) := ⟨_, rfl⟩
    rw [← hc2, ← hr4] at HP HR3
    rw [← hc2] at hd0 hd15
    have hre := HXe.out.d.range
    have hgn : ((la : Int) + 1) = ((la + 1 : Nat) : Int) := by omega
    rw [← hgn] at HP
    clear hc2 hr4 hgn
    go_upto_region 21 with (first
     | (refine ld 31 _ rfl rfl rfl hre Tryz.underlying31 rfl (hlenD _ _) ?_)
     | (go_at_call 50; refine HP.out.mono ?_; rintro e w4 ⟨m4, rfl, hk4, hb4, hs4'⟩)
     | (refine stBlk (cells := refC m4 r4) 31 (.tmp 1) (.tmp 78) rfl rfl rfl rfl (HXe.out.d.keep hb4) refI rfl (refC_one hk4) ?_; intro wf hBf hbf hof hsf))
    have HXf := jz (HXe.out.disk hk4 hb4 hs4' hBf hbf hof)
    clear hk4 hb4 hs4' hBf hbf hof hsf HP hre e2 HXe
    rcases Bool.eq_false_or_eq_true (c2 == 0) with t2 | t2
    ·obtain rfl : c2 = 0 := by simpa using t2
     have HF : Hid ((ropenR r).2.2 = 0 ∧ (ropenR r).1 = r4 ∧ (ropenR r).2.1 = ⟨true, sd, la + 1, la, SX.2, false⟩) := jz (by rw [HR3.out, if_pos rfl]; exact ⟨rfl, rfl, rfl⟩)
     clear t2 HR3
     go_upto_region 23 with fail
     go_cut [4] from 85 to 86 (fun x W => x = .int .i64 0 ∧ Hid (R2 w.heap.size wf W (N + 1) (N + 2) 31 37 (refC m4 r4) (rlC (.slice Ax SX.2.length cx) (⟨true, sd, la + 1, la, SX.2, false⟩))))
     case first =>
      obtain ⟨wS, hwS⟩ : ∃ wS, wS = wf.drew := ⟨_, rfl⟩
      have hbS : Below wf.heap.size wf wS := by rw [hwS]; exact (Below.refl _ _).drew
      have HRS : Hid (R2 w.heap.size wf wS (N + 1) (N + 2) 31 37 refZ rlZ) := jz ((R2.start HXf.out.a HXf.out.b HXf.out.p.n2.2.2 ⟨HXf.out.p.lo.2.2.1, HXf.out.p.lo.2.2.2⟩).keep hbS)
      have HDO : Hid (∀ xA xB W, R2 w.heap.size wf W (N + 1) (N + 2) 31 37 xA xB → Blk W (N) 31 (refC m4 r4) ∧ Blk W (gl) 37 (rlC (.slice Ax SX.2.length cx) ⟨true, sd, la + 1, la, SX.2, false⟩)) := jz (fun xA xB W k => ⟨k.old HXf.out.d HXf.out.p.n1.2.1 HXf.out.p.n1.2.2, k.old HXf.out.l HXf.out.p.n2.1 HXf.out.p.n2.2.1⟩)
      have HOD : Hid (∀ u ∈ (refC m4 r4).toList, u.oneCell' = true) := jz (fun u hu => by have := refC_one HXf.out.k; rw [Array.all_eq_true_iff_forall_mem] at this; exact this u (by simpa using hu))
      have HOL : Hid (∀ u ∈ (rlC (.slice Ax SX.2.length cx) (⟨true, sd, la + 1, la, SX.2, false⟩)).toList, u.oneCell' = true) := jz (fun u hu => by have := rlC_one (L := ⟨true, sd, la + 1, la, SX.2, false⟩) (HXf.out.lk); rw [Array.all_eq_true_iff_forall_mem] at this; exact this u (by simpa using hu))
      clear hbS
      refine held_start 5 (fun W => Blk W (N) 31 (refC m4 r4) ∧ Blk W (gl) 37 (rlC (.slice Ax SX.2.length cx) ⟨true, sd, la + 1, la, SX.2, false⟩)) (by kernel_rfl) (by kernel_rfl) (by rw [← hwS]; exact HDO.out _ _ _ HRS.out) (fun hHeld => ?_)
      rw [← hwS] at hHeld ⊢
      clear hwS
      refine jL 0 31 (.tmp 1) (some 85) (cs := (refC m4 r4).toList) (fun _ hX => hX.1.range) Tryz.underlying31 rfl (hlenD _ _) hHeld ?_
      simp only [j1, j2, j3, j4, j5]
      refine jL 1 37 (.tmp 9) (some 86) (cs := (rlC (.slice Ax SX.2.length cx) ⟨true, sd, la + 1, la, SX.2, false⟩).toList) (fun _ hX => hX.2.range) Tryz.underlying37 rfl (hlenL _ _) hHeld ?_
      simp only [j1, j2, j3, j4, j5]
      refine jW [2] ?_
      refine jR 2 31 (.tmp 2) (.tmp 85) none (cs := (refC m4 r4).toList) (there_all HRS.out.a rfl) (hlenD _ _) (HOD.out) (HDO.out _ _ _ (jz (HRS.out.stA ((refC m4 r4).toList) rfl)).out) ?_ jN
      simp only [j1, j2, j3, j4, j5]
      obtain ⟨wk1, hwk1⟩ : ∃ wx, wx = (wS.setCells (N + 1) 0 ((refC m4 r4).toList)) := ⟨_, rfl⟩
      have HR1 := jz (HRS.out.stA ((refC m4 r4).toList) rfl)
      rw [← hwk1] at HR1 ⊢
      clear hwk1
      refine jW [3] ?_
      refine jR 3 37 (.tmp 3) (.tmp 86) none (cs := (rlC (.slice Ax SX.2.length cx) (⟨true, sd, la + 1, la, SX.2, false⟩)).toList) (there_all HR1.out.b rfl) (hlenL _ _) (HOL.out) (HDO.out _ _ _ (jz (HR1.out.stB ((rlC (.slice Ax SX.2.length cx) (⟨true, sd, la + 1, la, SX.2, false⟩)).toList) rfl)).out) ?_ jN
      simp only [j1, j2, j3, j4, j5]
      obtain ⟨wk2, hwk2⟩ : ∃ wx, wx = (wk1.setCells (N + 2) 0 ((rlC (.slice Ax SX.2.length cx) (⟨true, sd, la + 1, la, SX.2, false⟩)).toList)) := ⟨_, rfl⟩
      have HR2 := jz (HR1.out.stB ((rlC (.slice Ax SX.2.length cx) (⟨true, sd, la + 1, la, SX.2, false⟩)).toList) rfl)
      rw [← hwk2] at HR2 ⊢
      clear hwk2
      refine jT 4 (.assign (.const (.int .i64 0))) (some 4) (.int .i64 0) (HDO.out _ _ _ HR2.out) ?_
      simp only [j1, j2, j3, j4, j5]
      refine wpAnyH_done (by kernel_rfl) ?_ _
      go_wp2_with fail
      go_meet
      exact ⟨rfl, HR2⟩
     case rest =>
      obtain ⟨rfl, HRR⟩ := hcut
      rename World => wz
      have hfin := HXf.out.ret HRR.out (HXf.out.lk) (fun _ e => e)
      go_wp2_with fail
      exact bodyPost_ret (results_cell2 rfl _ rfl HRR.out.a.range Tryz.underlying31 rfl refI rfl HRR.out.b.range Tryz.underlying37 rfl rlI) rfl ⟨m4, (.slice Ax SX.2.length cx), by rw [HF.out.1, HF.out.2.1, HF.out.2.2]; rfl, by rw [HF.out.2.1]; exact hfin.1, by rw [HF.out.2.2]; exact hfin.2.1, hfin.2.2.1, by rw [HF.out.2.1]; exact hfin.2.2.2.1, hfin.2.2.2.2⟩
    ·have hcn : ¬ c2 = 0 := by simpa using t2
     have HF : Hid (ropenR r = (r4, rl0, c2)) := jz (by rw [HR3.out, if_neg hcn])
     have hne0 : (c2 != 0) = true := by simp [hcn]
     have HD := jz (HXf.out.d19)
     clear hcn t2 HR3
     have hrz := HD.out.d.range
     go_wp2_with (first
      | (refine ld 31 _ rfl rfl rfl hrz Tryz.underlying31 rfl (hlenD _ _) ?_)
      | (refine bld 37 _ rfl rfl rfl builtRL0 ?_)
      | (refine stBlk (cells := refC m4 r4) 31 (.tmp 2) (.tmp 82) rfl rfl rfl rfl HD.out.a refI rfl (refC_one HD.out.k) ?_; intro wy hBy hby hoy hsy; have HBy := Lib.hid hBy; have Hby := Lib.hid hby; have Hoy := Lib.hid hoy; clear hBy hby hoy hsy)
      | (refine stBlk (cells := rlZ) 37 (.tmp 3) (.tmp 83) rfl rfl rfl rfl ((Hoy.out _ (fun e => HD.out.p.2.2.2.2.2 e.symm)).trans HD.out.b) rlI rfl hzone ?_; intro wz hBz hbz hoz hsz; have HBz := Lib.hid hBz; have Hbz := Lib.hid hbz; have Hoz := Lib.hid hoz; clear hBz hbz hoz hsz))
     have hfin := HD.out.ret HBy.out Hby.out Hoy.out Hbz.out Hoz.out
     exact bodyPost_ret (results_cell2 rfl _ rfl hfin.1.range Tryz.underlying31 rfl refI rfl HBz.out.range Tryz.underlying37 rfl rlI) rfl ⟨m4, .slice none 0 0, by rw [HF.out]; rfl, by rw [HF.out]; exact hfin.2.1, by rw [HF.out]; exact RLK.zero wz, hfin.2.2.1, by rw [HF.out]; exact hfin.2.2.2, fun b e => by cases e⟩
   ·obtain rfl : la = 4294967295 := by omega
    have HF : Hid (ropenR r = (r2, rl0, 13)) := jz (by rw [HR2.out, HSV.out]; unfold ropenW; rw [hsome]; rfl)
    have HD := jz (HXd.out.d19)
    clear hsome
    have hrz := HD.out.d.range
    go_wp2_with (first
     | (refine ld 31 _ rfl rfl rfl hrz Tryz.underlying31 rfl (hlenD _ _) ?_)
     | (refine bld 37 _ rfl rfl rfl builtRL0 ?_)
     | (refine stBlk (cells := refC m2 r2) 31 (.tmp 2) (.tmp 67) rfl rfl rfl rfl HD.out.a refI rfl (refC_one HD.out.k) ?_; intro wy hBy hby hoy hsy; have HBy := Lib.hid hBy; have Hby := Lib.hid hby; have Hoy := Lib.hid hoy; clear hBy hby hoy hsy)
     | (refine stBlk (cells := rlZ) 37 (.tmp 3) (.tmp 68) rfl rfl rfl rfl ((Hoy.out _ (fun e => HD.out.p.2.2.2.2.2 e.symm)).trans HD.out.b) rlI rfl hzone ?_; intro wz hBz hbz hoz hsz; have HBz := Lib.hid hBz; have Hbz := Lib.hid hbz; have Hoz := Lib.hid hoz; clear hBz hbz hoz hsz))
    have hfin := HD.out.ret HBy.out Hby.out Hoy.out Hbz.out Hoz.out
    exact bodyPost_ret (results_cell2 rfl _ rfl hfin.1.range Tryz.underlying31 rfl refI rfl HBz.out.range Tryz.underlying37 rfl rlI) rfl ⟨m2, .slice none 0 0, by rw [HF.out]; rfl, by rw [HF.out]; exact hfin.2.1, by rw [HF.out]; exact RLK.zero wz, hfin.2.2.1, by rw [HF.out]; exact hfin.2.2.2, fun b e => by cases e⟩
  ·have hcn : ¬ c = 0 := by simpa using t0
   have HF : Hid (ropenR r = (r2, rl0, c)) := jz (by rw [HRR.out, if_neg hcn])
   have hne0 : (c != 0) = true := by simp [hcn]
   clear hcn t0 HRR
   have hrz := HX3.out.d.range
   go_wp2_with (first
    | (refine ld 31 _ rfl rfl rfl hrz Tryz.underlying31 rfl (hlenD _ _) ?_)
    | (refine bld 37 _ rfl rfl rfl builtRL0 ?_)
    | (refine stBlk (cells := refC m2 r2) 31 (.tmp 2) (.tmp 25) rfl rfl rfl rfl HX3.out.a refI rfl (refC_one HX3.out.k) ?_; intro wy hBy hby hoy hsy; have HBy := Lib.hid hBy; have Hby := Lib.hid hby; have Hoy := Lib.hid hoy; clear hBy hby hoy hsy)
    | (refine stBlk (cells := rlZ) 37 (.tmp 3) (.tmp 26) rfl rfl rfl rfl ((Hoy.out _ (fun e => HX3.out.p.2.2.2.2.2 e.symm)).trans HX3.out.b) rlI rfl hzone ?_; intro wz hBz hbz hoz hsz; have HBz := Lib.hid hBz; have Hbz := Lib.hid hbz; have Hoz := Lib.hid hoz; clear hBz hbz hoz hsz))
   have hfin := HX3.out.ret HBy.out Hby.out Hoy.out Hbz.out Hoz.out
   exact bodyPost_ret (results_cell2 rfl _ rfl hfin.1.range Tryz.underlying31 rfl refI rfl HBz.out.range Tryz.underlying37 rfl rlI) rfl ⟨m2, .slice none 0 0, by rw [HF.out]; rfl, by rw [HF.out]; exact hfin.2.1, by rw [HF.out]; exact RLK.zero wz, hfin.2.2.1, by rw [HF.out]; exact hfin.2.2.2, fun b e => by cases e⟩
end Go.Proofs.YtillkpjflcgkeaaGreat
