import Derived.Test.YtillkpjflcgkeaaGreatMT27
import Derived.Test.YtillkpjflcgkeaaGreatMT5
set_option linter.unusedSimpArgs false
set_option maxRecDepth 100000
namespace Go.Proofs.YtillkpjflcgkeaaGreat
open Go.RowKit
attribute [local irreducible] wpQuiet wpAnyH
structure P19 (n gd gl za zb : Nat) : Prop where
 lo : n ≤ gd ∧ n ≤ gl ∧ n ≤ za ∧ n ≤ zb
 n1 : gd ≠ gl ∧ gd ≠ za ∧ gd ≠ zb
 n2 : gl ≠ za ∧ gl ≠ zb ∧ za ≠ zb
structure X19 (w W : World) (m0 : RM) (r0 : RefD) (v0 : Value) (m : RM) (r : RefD) (v : Value) (L : RLog) (gd gl za zb : Nat) : Prop where
 d : Blk W gd 31 (refC m r)
 l : Blk W gl 37 (rlC v L)
 a : Blk W za 31 refZ
 b : Blk W zb 37 rlZ
 k : RK W m r
 lk : RLK W v L
 bel : Below w.heap.size w W
 sub : ∀ b ∈ rowsOf m r, b ∈ rowsOf m0 r0 ∨ w.heap.size ≤ b
 vsub : ∀ b, v.ownBlock = some b → v0.ownBlock = some b ∨ w.heap.size ≤ b
 nd : ∀ g, (g = gd ∨ g = gl ∨ g = za ∨ g = zb) → g ∉ rowsOf m r ∧ v.ownBlock ≠ some g
 p : P19 w.heap.size gd gl za zb
section
variable {w W W2 W3 : World} {m0 m m2 : RM} {r0 r r2 : RefD} {v0 v v2 : Value} {L L2 : RLog} {gd gl za zb : Nat}
theorem X19.keep (x : X19 w W m0 r0 v0 m r v L gd gl za zb) (hb : Below W.heap.size W W2) : X19 w W2 m0 r0 v0 m r v L gd gl za zb :=
 ⟨x.d.keep hb, x.l.keep hb, x.a.keep hb, x.b.keep hb, x.k.keep hb, x.lk.keep hb, bstep x.bel hb, x.sub, x.vsub, x.nd, x.p⟩
theorem X19.gt (x : X19 w W m0 r0 v0 m r v L gd gl za zb) {g : Nat} (h : g = gd ∨ g = gl ∨ g = za ∨ g = zb) : g < W.heap.size := by
 rcases h with rfl | rfl | rfl | rfl
 ·exact x.d.lt
 ·exact x.l.lt
 ·exact x.a.lt
 ·exact x.b.lt
theorem X19.far (x : X19 w W m0 r0 v0 m r v L gd gl za zb) {b : Nat} (hb : W.heap.size ≤ b) : w.heap.size ≤ b ∧ b ≠ gd ∧ b ≠ gl ∧ b ≠ za ∧ b ≠ zb :=
 ⟨Nat.le_trans x.bel.size hb, fun e => by have := x.d.lt; omega, fun e => by have := x.l.lt; omega, fun e => by have := x.a.lt; omega, fun e => by have := x.b.lt; omega⟩
theorem X19.disk (x : X19 w W m0 r0 v0 m r v L gd gl za zb) (hk : RK W2 m2 r2) (hb : Below W.heap.size W W2) (hsub : ∀ b ∈ rowsOf m2 r2, b ∈ rowsOf m r ∨ W.heap.size ≤ b) (hB : Blk W3 gd 31 (refC m2 r2)) (hb3 : Below gd W2 W3) (ho : ∀ k, k ≠ gd → W3.heap[k]? = W2.heap[k]?) : X19 w W3 m0 r0 v0 m2 r2 v L gd gl za zb := by
 have y := x.keep hb
 have p := x.p
 have hnd : ∀ g, (g = gd ∨ g = gl ∨ g = za ∨ g = zb) → g ∉ rowsOf m2 r2 ∧ v.ownBlock ≠ some g := fun g hg => ⟨fun hm => by
  rcases hsub g hm with h | h
  ·exact (x.nd g hg).1 h
  ·have := x.gt hg; omega, (x.nd g hg).2⟩
 exact ⟨hB, (ho gl (fun e => p.n1.1 e.symm)).trans y.l, (ho za (fun e => p.n1.2.1 e.symm)).trans y.a, (ho zb (fun e => p.n1.2.2 e.symm)).trans y.b, hk.offK ho hb3.size (hnd gd (.inl rfl)).1, y.lk.same (fun b e => ho b (fun e2 => (hnd gd (.inl rfl)).2 (e2 ▸ e))) hb3.size, y.bel.trans (hb3.mono p.lo.1), fun b hm => (hsub b hm).elim (x.sub b) (fun h => .inr (Nat.le_trans x.bel.size h)), x.vsub, hnd, p⟩
theorem X19.log (x : X19 w W m0 r0 v0 m r v L gd gl za zb) (hk : RLK W v2 L2) (hsub : ∀ b, v2.ownBlock = some b → v.ownBlock = some b ∨ (w.heap.size ≤ b ∧ b ≠ gd ∧ b ≠ gl ∧ b ≠ za ∧ b ≠ zb)) (hB : Blk W3 gl 37 (rlC v2 L2)) (hb3 : Below gl W W3) (ho : ∀ k, k ≠ gl → W3.heap[k]? = W.heap[k]?) : X19 w W3 m0 r0 v0 m r v2 L2 gd gl za zb := by
 have p := x.p
 have hnd : ∀ g, (g = gd ∨ g = gl ∨ g = za ∨ g = zb) → g ∉ rowsOf m r ∧ v2.ownBlock ≠ some g := fun g hg => ⟨(x.nd g hg).1, fun e => by
  rcases hsub g e with h | ⟨_, h1, h2, h3, h4⟩
  ·exact (x.nd g hg).2 h
  ·rcases hg with h | h | h | h
   ·exact h1 h
   ·exact h2 h
   ·exact h3 h
   ·exact h4 h⟩
 exact ⟨(ho gd p.n1.1).trans x.d, hB, (ho za (fun e => p.n2.1 e.symm)).trans x.a, (ho zb (fun e => p.n2.2.1 e.symm)).trans x.b, x.k.offK ho hb3.size (x.nd gl (.inr (.inl rfl))).1, hk.same (fun b e => ho b (fun e2 => (hnd gl (.inr (.inl rfl))).2 (e2 ▸ e))) hb3.size, x.bel.trans (hb3.mono p.lo.2.1), x.sub, fun b e => (hsub b e).elim (x.vsub b) (fun h => .inr h.1), hnd, p⟩
theorem X19.cell (x : X19 w W m0 r0 v0 m r v L gd gl za zb) (i : Nat) (u : Value) (hk : RLK W v2 L2) (hsub : ∀ b, v2.ownBlock = some b → v.ownBlock = some b ∨ (w.heap.size ≤ b ∧ b ≠ gd ∧ b ≠ gl ∧ b ≠ za ∧ b ≠ zb)) (hc : (rlC v L).setIfInBounds i u = rlC v2 L2) : X19 w (W.setCell ⟨gl, i, none⟩ u) m0 r0 v0 m r v2 L2 gd gl za zb :=
 x.log hk hsub (by rw [← hc]; exact x.l.set_ i u) ((Below.refl gl W).setCell (p := ⟨gl, i, none⟩) (Nat.le_refl _) _) (fun j hj => Below.heap_setCell _ ⟨gl, i, none⟩ _ j hj)
theorem X19.ret (x : X19 w W m0 r0 v0 m r v L gd gl za zb) (h : R2 w.heap.size W W2 za zb 31 37 (refC m r) (rlC v2 L2)) (hk : RLK W v2 L2) (hsub : ∀ b, v2.ownBlock = some b → v.ownBlock = some b) : RK W2 m r ∧ RLK W2 v2 L2 ∧ Below w.heap.size w W2 ∧ (∀ b ∈ rowsOf m r, b ∈ rowsOf m0 r0 ∨ w.heap.size ≤ b) ∧ ∀ b, v2.ownBlock = some b → v0.ownBlock = some b ∨ w.heap.size ≤ b := by
 have ha := x.nd za (.inr (.inr (.inl rfl)))
 have hb := x.nd zb (.inr (.inr (.inr rfl)))
 exact ⟨h.rk x.k ha.1 hb.1, h.rlk hk (fun e => ha.2 (hsub _ e)) (fun e => hb.2 (hsub _ e)), x.bel.trans h.bel, x.sub, fun b e => x.vsub b (hsub b e)⟩
end
def rappA (r : RefD) (L : RLog) (q : Ent2) : Int := if L.has then (if L.brk then 11 else rputA r (((r.sec.length / 2 : Nat) : Int) * (L.side : Int)) (r.sec.length / 2 : Nat) ((L.es.length + 1 : Nat) : Int) L.gen q) else 12
def rappD (r : RefD) (L : RLog) (q : Ent2) : RefD := if L.has then (if L.brk then r else rputD r (((r.sec.length / 2 : Nat) : Int) * (L.side : Int)) (r.sec.length / 2 : Nat) ((L.es.length + 1 : Nat) : Int) L.gen q) else r
def rappM (L : RLog) (q : Ent2) (c : Int) : RLog := if c = 0 then { L with es := L.es ++ [q] } else rafter L c
def rappL (r : RefD) (L : RLog) (q : Ent2) : RLog := if L.has then (if L.brk then L else rappM L q (rputA r (((r.sec.length / 2 : Nat) : Int) * (L.side : Int)) (r.sec.length / 2 : Nat) ((L.es.length + 1 : Nat) : Int) L.gen q)) else L
theorem rlC_at4 (v : Value) (L : RLog) : (rlC v L)[4]? = some v := rfl
theorem half_side {n s : Nat} (hn : n ≤ 2048) (hs : s < 2) : 0 ≤ (n : Int) * (s : Int) ∧ (n : Int) * (s : Int) ≤ 2048 := by
 have : s = 0 ∨ s = 1 := by omega
 rcases this with rfl | rfl
 ·simp
 ·simp; omega
theorem rputA_code (r : RefD) (f z p : Int) (g : Nat) (q : Ent2) : 0 ≤ rputA r f z p g q ∧ rputA r f z p g q ≤ 15 ∧ (rputA r f z p g q = 0 → p < z) := by
 have hw : ∀ a, 0 ≤ rwriteA r a ∧ rwriteA r a ≤ 15 := fun a => by unfold rwriteA; repeat' split; all_goals omega
 have hs : ∀ r : RefD, 0 ≤ rsyncA r ∧ rsyncA r ≤ 15 := fun r => by unfold rsyncA; repeat' split; all_goals omega
 unfold rputA rwsA
 have h1 := hw (f + p)
 have h2 := hs (rwriteD r (f + p) (entRec g q))
 repeat' split
 all_goals omega
set_option maxHeartbeats 8000000 in
theorem ref19_append (m : RM) (r : RefD) (v : Value) (L : RLog) (q : Ent2) (w : World) (h : RK w m r) (hL : RLK w v L) (hq : EntOk q) (hst : r.steps + 2 ≤ 1000000000) (ho : r.opn.length + 1 ≤ 50000) :
  Calls Tryz.prog 23 #[.agg (refC m r), .agg (rlC v L), .agg (entP q).toArray] w fun e w' => ∃ m' v', e = .returned (.tuple #[.agg (refC m' (rappD r L q)), .agg (rlC v' (rappL r L q)), .int .i64 (rappA r L q)]) ∧ RK w' m' (rappD r L q) ∧ RLK w' v' (rappL r L q) ∧ Below w.heap.size w w' ∧ (∀ b ∈ rowsOf m' (rappD r L q), b ∈ rowsOf m r ∨ w.heap.size ≤ b) ∧ ∀ b, v'.ownBlock = some b → v.ownBlock = some b ∨ w.heap.size ≤ b := by
 have hlenD : ∀ m r, (Tryz.prog.info? 31).map (·.size) = some (refC m r).toList.length := fun _ _ => refI
 have hlenL : ∀ v L, (Tryz.prog.info? 37).map (·.size) = some (rlC v L).toList.length := fun _ _ => rlI
 have hel := entP_length q hq
 have hqi : (Tryz.prog.info? 43).map (·.size) = some (entP q).length := by rw [hel]; kernel_rfl
 obtain ⟨As, cs, es⟩ := h.sec.slc
 obtain ⟨Av, cv, ev⟩ := hL.sn.slc
 obtain ⟨w1, hw1⟩ : ∃ w1, w1 = ((((w.alloc (.cells (refC m r) 31)).alloc (.cells (rlC v L) 37)).alloc (.cells (entP q).toArray 43)).alloc (.cells refZ 31)).alloc (.cells rlZ 37) := ⟨_, rfl⟩
 have HX1 : Hid (X19 w w1 m r v m r v L w.heap.size (w.heap.size + 1) (w.heap.size + 3) (w.heap.size + 4)) := jz (by
  have hb : Below w.heap.size w w1 := by rw [hw1]; exact bstep (bstep (bstep (bstep (bel1 _ _) (bel1 _ _)) (bel1 _ _)) (bel1 _ _)) (bel1 _ _)
  refine ⟨by rw [hw1]; exact ((((Blk.new _ _ _).alloc _).alloc _).alloc _).alloc _, by rw [hw1]; exact (((Blk.newAt _ _ _ _ (by simp)).alloc _).alloc _).alloc _, by rw [hw1]; exact (Blk.newAt _ _ _ _ (by simp)).alloc _, by rw [hw1]; exact Blk.newAt _ _ _ _ (by simp), h.keep hb, hL.keep hb, hb, fun b hm => .inl hm, fun b e => .inl e, fun g hg => ⟨fun hm => by have := h.bl g hm; omega, fun e => by have := hL.lt g e; omega⟩, ⟨⟨by omega, by omega, by omega, by omega⟩, ⟨by omega, by omega, by omega⟩, ⟨by omega, by omega, by omega⟩⟩⟩)
 have HE1 : Hid (Blk w1 (w.heap.size + 2) 43 (entP q).toArray) := jz (by rw [hw1]; exact ((Blk.newAt _ _ _ _ (by simp)).alloc _).alloc _)
 have HQ := Lib.hid hq
 have hsl : r.sec.length ≤ 4096 := h.ok.few
 have hcell : ∀ W gd, Blk W gd 31 (refC m r) → W.cell? ⟨gd, 0, none⟩ = some (.slice As r.sec.length cs) := fun W gd hB => by
  have h0 : W.cell? ⟨gd, 0, none⟩ = some m.sv := (hB.cell 0).trans rfl
  rw [h0, es]
 obtain ⟨n, hn⟩ : ∃ n : Nat, n = r.sec.length / 2 := ⟨_, rfl⟩
 have HQN : Hid ((r.sec.length : Int) / 2 = (n : Int)) := jz (by omega)
 have HDA : Hid (rappA r L q = if L.has then (if L.brk then 11 else rputA r ((n : Int) * (L.side : Int)) n ((L.es.length + 1 : Nat) : Int) L.gen q) else 12) := jz (by rw [hn]; rfl)
 have HDD : Hid (rappD r L q = if L.has then (if L.brk then r else rputD r ((n : Int) * (L.side : Int)) n ((L.es.length + 1 : Nat) : Int) L.gen q) else r) := jz (by rw [hn]; rfl)
 have HDL : Hid (rappL r L q = if L.has then (if L.brk then L else rappM L q (rputA r ((n : Int) * (L.side : Int)) n ((L.es.length + 1 : Nat) : Int) L.gen q)) else L) := jz (by rw [hn]; rfl)
 have hn2 : n ≤ 2048 := by omega
 have hn2i : (n : Int) ≤ 2048 := by omega
 have c0 := hcell w1 w.heap.size HX1.out.d
 have l0 : w1.cell? ⟨w.heap.size + 1, 0, none⟩ = some (.bool L.has) := (HX1.out.l.cell 0).trans rfl
 have l5 : w1.cell? ⟨w.heap.size + 1, 5, none⟩ = some (.bool L.brk) := (HX1.out.l.cell 5).trans rfl
 have HEV := Lib.hid ev
 obtain ⟨N, hN⟩ : ∃ N, N = w.heap.size := ⟨_, rfl⟩
 have HN := Lib.hid hN
 clear h hL hq hn es ev hcell
 go_enter Tryz.func23, Tryz.ntmps23
 go_upto_region 1 with (first | (refine al 31 refZ rfl rfl zeroRef ?_) | (refine al 37 rlZ rfl rfl zeroRL ?_))
 rw [← hw1]
 clear hw1
 rw [← hN] at HX1 HE1 c0 l0 l5
 simp only [← hN]
 clear hN
 go_upto_region 2 with fail
 rw [HQN.out]
 cases hhas : L.has with
 | false =>
  rw [hhas] at l0
  have HF : Hid (rappA r L q = 12 ∧ rappD r L q = r ∧ rappL r L q = L) := jz (by rw [HDA.out, HDD.out, HDL.out, hhas]; exact ⟨rfl, rfl, rfl⟩)
  clear hhas
  go_upto_region 3 with fail
  go_cut [8] from 18 to 19 (fun x W => x = .int .i64 12 ∧ Hid (R2 w.heap.size w1 W (N + 3) (N + 4) 31 37 (refC m r) (rlC v (L))))
  case first =>
   obtain ⟨wS, hwS⟩ : ∃ wS, wS = w1.drew := ⟨_, rfl⟩
   have hbS : Below w1.heap.size w1 wS := by rw [hwS]; exact (Below.refl _ _).drew
   have HRS : Hid (R2 w.heap.size w1 wS (N + 3) (N + 4) 31 37 refZ rlZ) := jz ((R2.start HX1.out.a HX1.out.b HX1.out.p.n2.2.2 ⟨HX1.out.p.lo.2.2.1, HX1.out.p.lo.2.2.2⟩).keep hbS)
   have HDO : Hid (∀ xA xB W, R2 w.heap.size w1 W (N + 3) (N + 4) 31 37 xA xB → Blk W (N) 31 (refC m r) ∧ Blk W (N + 1) 37 (rlC v L)) := jz (fun xA xB W k => ⟨k.old HX1.out.d HX1.out.p.n1.2.1 HX1.out.p.n1.2.2, k.old HX1.out.l HX1.out.p.n2.1 HX1.out.p.n2.2.1⟩)
   have HOD : Hid (∀ u ∈ (refC m r).toList, u.oneCell' = true) := jz (fun u hu => by have := refC_one HX1.out.k; rw [Array.all_eq_true_iff_forall_mem] at this; exact this u (by simpa using hu))
   have HOL : Hid (∀ u ∈ (rlC v (L)).toList, u.oneCell' = true) := jz (fun u hu => by have := rlC_one (L := L) (HX1.out.lk); rw [Array.all_eq_true_iff_forall_mem] at this; exact this u (by simpa using hu))
   clear hbS
   refine held_start 5 (fun W => Blk W (N) 31 (refC m r) ∧ Blk W (N + 1) 37 (rlC v L)) (by kernel_rfl) (by kernel_rfl) (by rw [← hwS]; exact HDO.out _ _ _ HRS.out) (fun hHeld => ?_)
   rw [← hwS] at hHeld ⊢
   clear hwS
   refine jL 0 31 (.tmp 3) (some 18) (cs := (refC m r).toList) (fun _ hX => hX.1.range) Tryz.underlying31 rfl (hlenD _ _) hHeld ?_
   simp only [j1, j2, j3, j4, j5]
   refine jL 1 37 (.tmp 4) (some 19) (cs := (rlC v L).toList) (fun _ hX => hX.2.range) Tryz.underlying37 rfl (hlenL _ _) hHeld ?_
   simp only [j1, j2, j3, j4, j5]
   refine jW [2] ?_
   refine jR 2 31 (.tmp 6) (.tmp 18) none (cs := (refC m r).toList) (there_all HRS.out.a rfl) (hlenD _ _) (HOD.out) (HDO.out _ _ _ (jz (HRS.out.stA ((refC m r).toList) rfl)).out) ?_ jN
   simp only [j1, j2, j3, j4, j5]
   obtain ⟨wk1, hwk1⟩ : ∃ wx, wx = (wS.setCells (N + 3) 0 ((refC m r).toList)) := ⟨_, rfl⟩
   have HR1 := jz (HRS.out.stA ((refC m r).toList) rfl)
   rw [← hwk1] at HR1 ⊢
   clear hwk1
   refine jW [3] ?_
   refine jR 3 37 (.tmp 7) (.tmp 19) none (cs := (rlC v (L)).toList) (there_all HR1.out.b rfl) (hlenL _ _) (HOL.out) (HDO.out _ _ _ (jz (HR1.out.stB ((rlC v (L)).toList) rfl)).out) ?_ jN
   simp only [j1, j2, j3, j4, j5]
   obtain ⟨wk2, hwk2⟩ : ∃ wx, wx = (wk1.setCells (N + 4) 0 ((rlC v (L)).toList)) := ⟨_, rfl⟩
   have HR2 := jz (HR1.out.stB ((rlC v (L)).toList) rfl)
   rw [← hwk2] at HR2 ⊢
   clear hwk2
   refine jT 4 (.assign (.const (.int .i64 12))) (some 8) (.int .i64 12) (HDO.out _ _ _ HR2.out) ?_
   simp only [j1, j2, j3, j4, j5]
   refine wpAnyH_done (by kernel_rfl) ?_ _
   go_wp2_with fail
   go_meet
   exact ⟨rfl, HR2⟩
  case rest =>
   obtain ⟨rfl, HRR⟩ := hcut
   rename World => wz
   have hfin := HX1.out.ret HRR.out (HX1.out.lk) (fun _ e => e)
   go_wp2_with fail
   exact bodyPost_ret (results_cell2 rfl _ rfl HRR.out.a.range Tryz.underlying31 rfl refI rfl HRR.out.b.range Tryz.underlying37 rfl rlI) rfl ⟨m, v, by rw [HF.out.1, HF.out.2.1, HF.out.2.2]; rfl, by rw [HF.out.2.1]; exact hfin.1, by rw [HF.out.2.2]; exact hfin.2.1, hfin.2.2.1, by rw [HF.out.2.1]; exact hfin.2.2.2.1, hfin.2.2.2.2⟩
 | true =>
  rw [hhas] at l0
  cases hbrk : L.brk with
  | true =>
   rw [hbrk] at l5
   have HF : Hid (rappA r L q = 11 ∧ rappD r L q = r ∧ rappL r L q = L) := jz (by rw [HDA.out, HDD.out, HDL.out, hhas, hbrk]; exact ⟨rfl, rfl, rfl⟩)
   clear hhas hbrk
   go_upto_region 5 with fail
   go_cut [8] from 22 to 23 (fun x W => x = .int .i64 11 ∧ Hid (R2 w.heap.size w1 W (N + 3) (N + 4) 31 37 (refC m r) (rlC v (L))))
   case first =>
    obtain ⟨wS, hwS⟩ : ∃ wS, wS = w1.drew := ⟨_, rfl⟩
    have hbS : Below w1.heap.size w1 wS := by rw [hwS]; exact (Below.refl _ _).drew
    have HRS : Hid (R2 w.heap.size w1 wS (N + 3) (N + 4) 31 37 refZ rlZ) := jz ((R2.start HX1.out.a HX1.out.b HX1.out.p.n2.2.2 ⟨HX1.out.p.lo.2.2.1, HX1.out.p.lo.2.2.2⟩).keep hbS)
    have HDO : Hid (∀ xA xB W, R2 w.heap.size w1 W (N + 3) (N + 4) 31 37 xA xB → Blk W (N) 31 (refC m r) ∧ Blk W (N + 1) 37 (rlC v L)) := jz (fun xA xB W k => ⟨k.old HX1.out.d HX1.out.p.n1.2.1 HX1.out.p.n1.2.2, k.old HX1.out.l HX1.out.p.n2.1 HX1.out.p.n2.2.1⟩)
    have HOD : Hid (∀ u ∈ (refC m r).toList, u.oneCell' = true) := jz (fun u hu => by have := refC_one HX1.out.k; rw [Array.all_eq_true_iff_forall_mem] at this; exact this u (by simpa using hu))
    have HOL : Hid (∀ u ∈ (rlC v (L)).toList, u.oneCell' = true) := jz (fun u hu => by have := rlC_one (L := L) (HX1.out.lk); rw [Array.all_eq_true_iff_forall_mem] at this; exact this u (by simpa using hu))
    clear hbS
    refine held_start 5 (fun W => Blk W (N) 31 (refC m r) ∧ Blk W (N + 1) 37 (rlC v L)) (by kernel_rfl) (by kernel_rfl) (by rw [← hwS]; exact HDO.out _ _ _ HRS.out) (fun hHeld => ?_)
    rw [← hwS] at hHeld ⊢
    clear hwS
    refine jL 0 31 (.tmp 3) (some 22) (cs := (refC m r).toList) (fun _ hX => hX.1.range) Tryz.underlying31 rfl (hlenD _ _) hHeld ?_
    simp only [j1, j2, j3, j4, j5]
    refine jL 1 37 (.tmp 4) (some 23) (cs := (rlC v L).toList) (fun _ hX => hX.2.range) Tryz.underlying37 rfl (hlenL _ _) hHeld ?_
    simp only [j1, j2, j3, j4, j5]
    refine jW [2] ?_
    refine jR 2 31 (.tmp 6) (.tmp 22) none (cs := (refC m r).toList) (there_all HRS.out.a rfl) (hlenD _ _) (HOD.out) (HDO.out _ _ _ (jz (HRS.out.stA ((refC m r).toList) rfl)).out) ?_ jN
    simp only [j1, j2, j3, j4, j5]
    obtain ⟨wk1, hwk1⟩ : ∃ wx, wx = (wS.setCells (N + 3) 0 ((refC m r).toList)) := ⟨_, rfl⟩
    have HR1 := jz (HRS.out.stA ((refC m r).toList) rfl)
    rw [← hwk1] at HR1 ⊢
    clear hwk1
    refine jW [3] ?_
    refine jR 3 37 (.tmp 7) (.tmp 23) none (cs := (rlC v (L)).toList) (there_all HR1.out.b rfl) (hlenL _ _) (HOL.out) (HDO.out _ _ _ (jz (HR1.out.stB ((rlC v (L)).toList) rfl)).out) ?_ jN
    simp only [j1, j2, j3, j4, j5]
    obtain ⟨wk2, hwk2⟩ : ∃ wx, wx = (wk1.setCells (N + 4) 0 ((rlC v (L)).toList)) := ⟨_, rfl⟩
    have HR2 := jz (HR1.out.stB ((rlC v (L)).toList) rfl)
    rw [← hwk2] at HR2 ⊢
    clear hwk2
    refine jT 4 (.assign (.const (.int .i64 11))) (some 8) (.int .i64 11) (HDO.out _ _ _ HR2.out) ?_
    simp only [j1, j2, j3, j4, j5]
    refine wpAnyH_done (by kernel_rfl) ?_ _
    go_wp2_with fail
    go_meet
    exact ⟨rfl, HR2⟩
   case rest =>
    obtain ⟨rfl, HRR⟩ := hcut
    rename World => wz
    have hfin := HX1.out.ret HRR.out (HX1.out.lk) (fun _ e => e)
    go_wp2_with fail
    exact bodyPost_ret (results_cell2 rfl _ rfl HRR.out.a.range Tryz.underlying31 rfl refI rfl HRR.out.b.range Tryz.underlying37 rfl rlI) rfl ⟨m, v, by rw [HF.out.1, HF.out.2.1, HF.out.2.2]; rfl, by rw [HF.out.2.1]; exact hfin.1, by rw [HF.out.2.2]; exact hfin.2.1, hfin.2.2.1, by rw [HF.out.2.1]; exact hfin.2.2.2.1, hfin.2.2.2.2⟩
  | false =>
   rw [hbrk] at l5
   have hs2 := HX1.out.lk.side
   have hg4 := HX1.out.lk.gen
   have hln := HX1.out.lk.ln
   obtain ⟨hm0, hm1⟩ := half_side hn2 hs2
   obtain ⟨f, hf⟩ : ∃ f : Int, f = (n : Int) * (L.side : Int) := ⟨_, rfl⟩
   have HFE := Lib.hid hf
   have HF : Hid (rappA r L q = rputA r f n ((L.es.length + 1 : Nat) : Int) L.gen q ∧ rappD r L q = rputD r f n ((L.es.length + 1 : Nat) : Int) L.gen q ∧ rappL r L q = rappM L q (rputA r f n ((L.es.length + 1 : Nat) : Int) L.gen q)) := jz (by rw [HDA.out, HDD.out, HDL.out, hhas, hbrk, hf]; exact ⟨rfl, rfl, rfl⟩)
   have HP := jz (ref_put18 m r f n ((L.es.length + 1 : Nat) : Int) L.gen q w1 HX1.out.k HQ.out ⟨by rw [hf]; exact hm0, by rw [hf]; omega⟩ ⟨⟨by omega, by omega⟩, by omega⟩ ⟨by omega, by omega⟩ hst ho)
   obtain ⟨hc0, hc15, hcz⟩ := rputA_code r f n ((L.es.length + 1 : Nat) : Int) L.gen q
   rw [hf] at HP
   have HCZ := Lib.hid hcz
   obtain ⟨c, hc⟩ : ∃ c, c = rputA r f n ((L.es.length + 1 : Nat) : Int) L.gen q := ⟨_, rfl⟩
   obtain ⟨r2, hr2⟩ : ∃ r2, r2 = rputD r f n ((L.es.length + 1 : Nat) : Int) L.gen q := ⟨_, rfl⟩
   rw [← hf, ← hc, ← hr2] at HP
   rw [← hc, ← hr2] at HF
   rw [← hc] at hc0 hc15 HCZ
   rw [hf] at HP
   have l1 : w1.cell? ⟨N + 1, 1, none⟩ = some (.int .i64 L.side) := (HX1.out.l.cell 1).trans rfl
   have l2 : w1.cell? ⟨N + 1, 2, none⟩ = some (.int .u32 L.gen) := (HX1.out.l.cell 2).trans rfl
   have l4 : w1.cell? ⟨N + 1, 4, none⟩ = some v := (HX1.out.l.cell 4).trans rfl
   rw [HEV.out] at l4
   have hr0 := HX1.out.d.range
   have hre := HE1.out.range
   rw [List.toList_toArray] at hre
   have hlc : ((L.es.length : Int) + 1) = ((L.es.length + 1 : Nat) : Int) := by omega
   rw [← hlc] at HP
   clear hhas hbrk hf hc hr2 hlc hcz
   go_upto_region 7 with (first
    | (refine ld 31 _ rfl rfl rfl hr0 Tryz.underlying31 rfl (hlenD _ _) ?_)
    | (refine ld 43 _ rfl rfl rfl hre Tryz.underlying43 rfl hqi ?_)
    | (go_at_call 47; refine HP.out.mono ?_; rintro e w2 ⟨m2, rfl, hk2, hb2, hs2'⟩)
    | (refine stBlk (cells := refC m2 r2) 31 (.tmp 3) (.tmp 39) rfl rfl rfl rfl (HX1.out.d.keep hb2) refI rfl (refC_one hk2) ?_; intro w3 hB3 hb3 ho3 hs3))
   have HX3 := jz (HX1.out.disk hk2 hb2 hs2' hB3 hb3 ho3)
   have HE3 : Hid (Blk w3 (N + 2) 43 (entP q).toArray) := jz ((ho3 _ (by omega)).trans (HE1.out.keep hb2))
   clear hk2 hb2 hs2' hB3 hb3 ho3 hs3 HP hr0 hre c0 l0 l1 l2 l4 l5
   rcases Bool.eq_false_or_eq_true (c == 0) with t0 | t0
   ·obtain rfl : c = 0 := by simpa using t0
    have HPZ : Hid (L.es.length + 1 < n) := jz (by have := HCZ.out rfl; omega)
    have HF2 : Hid (rappL r L q = { L with es := L.es ++ [q] }) := jz (by rw [HF.out.2.2]; rfl)
    have HLX : Hid (EntOk q) := HQ
    clear t0
    go_upto_region 9 with fail
    go_cut [] from 48 to 55 (fun W => ∃ v9, Hid (X19 w W m r v m2 r2 v9 { L with es := L.es ++ [q] } N (N + 1) (N + 3) (N + 4)))
    case first =>
     obtain ⟨wS, hwS⟩ : ∃ wS, wS = w3.drew := ⟨_, rfl⟩
     have hbS : Below w3.heap.size w3 wS := by rw [hwS]; exact (Below.refl _ _).drew
     have HXS := jz (HX3.out.keep hbS)
     have HES := jz (HE3.out.keep hbS)
     have HBS : Hid (Below wS.heap.size wS wS) := jz (Below.refl _ _)
     have HM : Hid (∀ W, Below wS.heap.size wS W → W.rangeAt (N + 2) 0 (entP q)) := jz (fun W hb => by have h := (HES.out.keep hb).range; rw [List.toList_toArray] at h; exact h)
     have HHL : Hid (∀ W, Below wS.heap.size wS W → Blk W (N + 1) 37 (rlC v L)) := jz (fun W hb => HXS.out.l.keep hb)
     have HOLD : Hid (∀ W, Below wS.heap.size wS W → Sn W 33 v L.es.length (L.es.flatMap entP)) := jz (fun W hb => HXS.out.lk.sn.below hb)
     have HONE : Hid (∀ u ∈ L.es.flatMap entP, u.oneCell' = true) := jz (fun u hu => by obtain ⟨p, _, hu⟩ := List.mem_flatMap.1 hu; exact entP_one p u hu)
     have HEL := Lib.hid hel
     have HLV : Hid (∀ W, Below wS.heap.size wS W → W.cell? ⟨N + 1, 4, none⟩ = some v) := jz (fun W hb => ((HHL.out W hb).cell 4).trans rfl)
     have HFIN : Hid (∀ W V, Below wS.heap.size wS W → W.ownsRow wS.heap.size 43 33 V (L.es.length + 1) (L.es.flatMap entP ++ entP q) → X19 w (W.setCell ⟨N + 1, 4, none⟩ V) m r v m2 r2 V { L with es := L.es ++ [q] } N (N + 1) (N + 3) (N + 4)) := jz (fun W V hb ho => by
      have x := HXS.out.keep hb
      refine x.cell 4 V ⟨?_, ?_, ?_, x.lk.side, x.lk.gen, x.lk.last, fun b e => (ho.lt b e).2⟩ (fun b e => .inr (HXS.out.far (ho.lt b e).1)) rfl
      ·show Sn W 33 V (L.es ++ [q]).length ((L.es ++ [q]).flatMap entP)
       rw [List.length_append, List.flatMap_append, List.flatMap_singleton]
       exact Sn.own ho
      ·intro p hp
       rcases List.mem_append.1 hp with h | h
       ·exact x.lk.ok p h
       ·rw [List.mem_singleton.1 h]; exact HLX.out
      ·show (L.es ++ [q]).length ≤ 10000
       rw [List.length_append]
       have := HPZ.out
       simp
       omega)
     clear hbS
     refine held_start 9 (fun W => W.rangeAt (N + 2) 0 (entP q)) (by kernel_rfl) (by kernel_rfl) (by rw [← hwS]; exact HM.out _ HBS.out) (fun hHeld => ?_)
     rw [← hwS] at hHeld ⊢
     clear hwS
     refine jT 1 (.fieldAddr 37 (.tmp 4) 4) (some 49) (.pointer (some ⟨N + 1, 4, none⟩)) hHeld ?_
     simp only [j1, j2, j3, j4, j5]
     refine jL 4 43 (.tmp 5) (some 52) (cs := entP q) (fun _ hX => hX) Tryz.underlying43 rfl hqi hHeld ?_
     simp only [j1, j2, j3, j4, j5]
     refine jW [0, 2, 5] ?_
     refine jS 0 (.buildSlice 34 0 #[]) (some 48) (.slice (some ⟨wS.heap.size, 0, none⟩) 0 0) (wS.alloc (.cells #[] 43)) (HM.out _ (bstep HBS.out (bel1 _ _))) ?_ (jS 2 (.load 34 (.tmp 49)) (some 50) (v) wS (hrun := fun o ho => by have hcell := HLV.out _ HBS.out; unfold execOp; simp only [ho]; go_simp) (HM.out _ HBS.out) ?_ (rLit1M 5 tEnt (Operand.tmp 52) (some 53) (by kernel_rfl) (by kernel_rfl) (cs := entP q) (by rfl) HEL.out (by decide) (HM.out _ (bstep HBS.out (bel1 _ _))) ?_ jN))
     ·simp only [j1, j2, j3, j4, j5]
      obtain ⟨wq1, hwq1⟩ : ∃ wq1, wq1 = wS.alloc (.cells #[] 43) := ⟨_, rfl⟩
      have hB1 : Below wS.heap.size wS wq1 := by rw [hwq1]; exact bel1 _ _
      have HB1 := jz (bstep HBS.out hB1)
      have HO1 : Hid (wq1.ownsRow wS.heap.size 43 33 (.slice (some ⟨wS.heap.size, 0, none⟩) 0 0) 0 []) := jz (by rw [hwq1]; exact own_new wS #[] 43 33 0 wS.heap.size _ HBS.out.size rfl (by decide) rfl)
      rw [← hwq1]
      clear hwq1 hB1
      refine jW [2, 5] ?_
      refine jS 2 (.load 34 (.tmp 49)) (some 50) (v) wq1 (hrun := fun o ho => by have hcell := HLV.out _ HB1.out; unfold execOp; simp only [ho]; go_simp) (HM.out _ HB1.out) ?_ (rLit1M 5 tEnt (Operand.tmp 52) (some 53) (by kernel_rfl) (by kernel_rfl) (cs := entP q) (by rfl) HEL.out (by decide) (HM.out _ (bstep HB1.out (bel1 _ _))) ?_ jN)
      ·simp only [j1, j2, j3, j4, j5]
       refine jW [3, 5] ?_
       refine rAppR 3 tEnt (.tmp 48) (.tmp 50) (some 51) (by kernel_rfl) (by kernel_rfl) (by rfl) HO1.out (by rfl) (HOLD.out _ HB1.out) HONE.out (by unfold maxLen; omega) (by omega) HB1.out.size (fun v3 wq3 hown hgrow hblk => ?_) (rLit1M 5 tEnt (Operand.tmp 52) (some 53) (by kernel_rfl) (by kernel_rfl) (cs := entP q) (by rfl) HEL.out (by decide) (HM.out _ (bstep HB1.out (bel1 _ _))) ?_ jN)
       ·rw [List.nil_append, Nat.zero_add] at hown
        obtain ⟨a3, c3, hv3, _, _⟩ := own_snD hown
        subst hv3
        have HO3 := Lib.hid hown
        have HB3 : Hid (Below wS.heap.size wS wq3) := jz (HB1.out.grown hgrow HB1.out.size (fun g hg => (HO1.out.lt g hg).1))
        clear hown hgrow hblk
        refine ⟨HM.out _ HB3.out, fun _ => ?_⟩
        simp only [j1, j2, j3, j4, j5]
        refine jW [5] ?_
        refine rLit1M 5 tEnt (Operand.tmp 52) (some 53) (by kernel_rfl) (by kernel_rfl) (cs := entP q) (by rfl) HEL.out (by decide) (HM.out _ (bstep HB3.out (bel1 _ _))) ?_ jN
        simp only [j1, j2, j3, j4, j5]
        obtain ⟨wq4, hwq4⟩ : ∃ wq4, wq4 = wq3.alloc (.cells (entP q).toArray 43) := ⟨_, rfl⟩
        have hB4 : Below wq3.heap.size wq3 wq4 := by rw [hwq4]; exact bel1 _ _
        have HB4 := jz (bstep HB3.out hB4)
        have HO4 := jz (own_below HO3.out hB4)
        have HL4 : Hid (Sn wq4 33 (.slice (some ⟨wq3.heap.size, 0, none⟩) 1 1) 1 (entP q)) := jz (by rw [hwq4]; have h := Sn.new wq3 (entP q).toArray 43 33 1 (by rw [List.size_toArray, HEL.out]); rw [List.toList_toArray] at h; exact h)
        have HLT4 : Hid (wq3.heap.size < wq4.heap.size) := jz (by rw [hwq4]; simp)
        rw [← hwq4]
        clear hwq4 hB4
        refine jW [6] ?_
        refine rAppR 6 tEnt (.tmp 51) (.tmp 53) (some 54) (by kernel_rfl) (by kernel_rfl) (by rfl) HO4.out (by rfl) HL4.out (entP_one q) (by unfold maxLen; omega) (by omega) HB4.out.size (fun v5 wq5 hown hgrow hblk => ?_) jN
        obtain ⟨a5, c5, hv5, _, _⟩ := own_snD hown
        subst hv5
        have HO5 := Lib.hid hown
        have HB5 : Hid (Below wS.heap.size wS wq5) := jz (HB4.out.grown hgrow HB4.out.size (fun g hg => (HO4.out.lt g hg).1))
        clear hown hgrow hblk
        refine ⟨HM.out _ HB5.out, fun _ => ?_⟩
        simp only [j1, j2, j3, j4, j5]
        have HFI := jz (HFIN.out wq5 (.slice a5 (L.es.length + 1) c5) HB5.out HO5.out)
        refine jT 7 (.fieldAddr 37 (.tmp 4) 4) (some 55) (.pointer (some ⟨N + 1, 4, none⟩)) (by assumption) ?_
        simp only [j1, j2, j3, j4, j5]
        have hHL := HHL.out _ HB5.out
        have hcg := (hHL.cell 4).trans (rlC_at4 v L)
        have hfg := hHL.frozen 4
        have hgg := hHL.lt
        have hRS : (wq5.setCell ⟨N + 1, 4, none⟩ (.slice a5 (L.es.length + 1) c5)).rangeAt (N + 2) 0 (entP q) := fun i u hi => (World.cell?_of_block (a := ⟨N + 2, 0 + i, none⟩) (Below.heap_setCell wq5 ⟨N + 1, 4, none⟩ _ (N + 2) (by show N + 2 ≠ N + 1; omega))).trans (HM.out _ HB5.out i u hi)
        refine jW [8] ?_
        refine rSkipR 8 (Op.store 34 (Operand.tmp 55) (Operand.tmp 54)) none (wq5.setCell ⟨N + 1, 4, none⟩ (.slice a5 (L.es.length + 1) c5)) (by kernel_rfl) (by kernel_rfl) (fun o ho => by unfold execOp; simp only [ho]; go_simp) hRS ?_ jN
        simp only [j1, j2, j3, j4, j5]
        refine wpAnyH_done (by kernel_rfl) ?_ _
        go_wp2_with fail
        go_meet
        exact ⟨_, HFI⟩
       ·simp only [j1, j2, j3, j4, j5]
        obtain ⟨wq6, hwq6⟩ : ∃ wq6, wq6 = wq1.alloc (.cells (entP q).toArray 43) := ⟨_, rfl⟩
        have hB6 : Below wq1.heap.size wq1 wq6 := by rw [hwq6]; exact bel1 _ _
        have HB6 := jz (bstep HB1.out hB6)
        have HO6 := jz (own_below HO1.out hB6)
        have HL6 : Hid (Sn wq6 33 (.slice (some ⟨wq1.heap.size, 0, none⟩) 1 1) 1 (entP q)) := jz (by rw [hwq6]; have h := Sn.new wq1 (entP q).toArray 43 33 1 (by rw [List.size_toArray, HEL.out]); rw [List.toList_toArray] at h; exact h)
        have HLT6 : Hid (wq1.heap.size < wq6.heap.size) := jz (by rw [hwq6]; simp)
        have HNE6 : Hid (∀ b, (Value.slice (some ⟨wq1.heap.size, 0, none⟩) 1 1).ownBlock = some b → Value.ownBlock (.slice (some ⟨wS.heap.size, 0, none⟩) 0 0) ≠ some b) := jz (fun b e e2 => by have e : wq1.heap.size = b := Option.some.inj e; have := (HO1.out.lt b e2).2; omega)
        rw [← hwq6]
        clear hwq6 hB6
        refine jW [3] ?_
        refine rAppR 3 tEnt (.tmp 48) (.tmp 50) (some 51) (by kernel_rfl) (by kernel_rfl) (by rfl) HO6.out (by rfl) (HOLD.out _ HB6.out) HONE.out (by unfold maxLen; omega) (by omega) HB6.out.size (fun v7 wq7 hown hgrow hblk => ?_) jN
        rw [List.nil_append, Nat.zero_add] at hown
        obtain ⟨a7, c7, hv7, _, _⟩ := own_snD hown
        subst hv7
        have HO7 := Lib.hid hown
        have HB7 : Hid (Below wS.heap.size wS wq7) := jz (HB6.out.grown hgrow HB6.out.size (fun g hg => (HO6.out.lt g hg).1))
        have HL7 : Hid (Sn wq7 33 (.slice (some ⟨wq1.heap.size, 0, none⟩) 1 1) 1 (entP q)) := jz (by obtain ⟨A, c, h1, h2, h3, h4⟩ := HL6.out; refine ⟨A, c, h1, h2, h3, fun hp => ?_⟩; obtain ⟨b, o, h5, h6⟩ := h4 hp; refine ⟨b, o, h5, fun j u hj => hgrow.cell (h6 j u hj) (fun e => ?_)⟩; exact HNE6.out b (by rw [h1, h5]; rfl) e.symm)
        clear hown hgrow hblk
        refine ⟨HM.out _ HB7.out, fun _ => ?_⟩
        simp only [j1, j2, j3, j4, j5]
        refine jW [6] ?_
        refine rAppR 6 tEnt (.tmp 51) (.tmp 53) (some 54) (by kernel_rfl) (by kernel_rfl) (by rfl) HO7.out (by rfl) HL7.out (entP_one q) (by unfold maxLen; omega) (by omega) HB7.out.size (fun v8 wq8 hown hgrow hblk => ?_) jN
        obtain ⟨a8, c8, hv8, _, _⟩ := own_snD hown
        subst hv8
        have HO8 := Lib.hid hown
        have HB8 : Hid (Below wS.heap.size wS wq8) := jz (HB7.out.grown hgrow HB7.out.size (fun g hg => (HO7.out.lt g hg).1))
        clear hown hgrow hblk
        refine ⟨HM.out _ HB8.out, fun _ => ?_⟩
        simp only [j1, j2, j3, j4, j5]
        have HFI := jz (HFIN.out wq8 (.slice a8 (L.es.length + 1) c8) HB8.out HO8.out)
        refine jT 7 (.fieldAddr 37 (.tmp 4) 4) (some 55) (.pointer (some ⟨N + 1, 4, none⟩)) (by assumption) ?_
        simp only [j1, j2, j3, j4, j5]
        have hHL := HHL.out _ HB8.out
        have hcg := (hHL.cell 4).trans (rlC_at4 v L)
        have hfg := hHL.frozen 4
        have hgg := hHL.lt
        have hRS : (wq8.setCell ⟨N + 1, 4, none⟩ (.slice a8 (L.es.length + 1) c8)).rangeAt (N + 2) 0 (entP q) := fun i u hi => (World.cell?_of_block (a := ⟨N + 2, 0 + i, none⟩) (Below.heap_setCell wq8 ⟨N + 1, 4, none⟩ _ (N + 2) (by show N + 2 ≠ N + 1; omega))).trans (HM.out _ HB8.out i u hi)
        refine jW [8] ?_
        refine rSkipR 8 (Op.store 34 (Operand.tmp 55) (Operand.tmp 54)) none (wq8.setCell ⟨N + 1, 4, none⟩ (.slice a8 (L.es.length + 1) c8)) (by kernel_rfl) (by kernel_rfl) (fun o ho => by unfold execOp; simp only [ho]; go_simp) hRS ?_ jN
        simp only [j1, j2, j3, j4, j5]
        refine wpAnyH_done (by kernel_rfl) ?_ _
        go_wp2_with fail
        go_meet
        exact ⟨_, HFI⟩
      ·simp only [j1, j2, j3, j4, j5]
       obtain ⟨wq9, hwq9⟩ : ∃ wq9, wq9 = wq1.alloc (.cells (entP q).toArray 43) := ⟨_, rfl⟩
       have hB9 : Below wq1.heap.size wq1 wq9 := by rw [hwq9]; exact bel1 _ _
       have HB9 := jz (bstep HB1.out hB9)
       have HO9 := jz (own_below HO1.out hB9)
       have HL9 : Hid (Sn wq9 33 (.slice (some ⟨wq1.heap.size, 0, none⟩) 1 1) 1 (entP q)) := jz (by rw [hwq9]; have h := Sn.new wq1 (entP q).toArray 43 33 1 (by rw [List.size_toArray, HEL.out]); rw [List.toList_toArray] at h; exact h)
       have HLT9 : Hid (wq1.heap.size < wq9.heap.size) := jz (by rw [hwq9]; simp)
       have HNE9 : Hid (∀ b, (Value.slice (some ⟨wq1.heap.size, 0, none⟩) 1 1).ownBlock = some b → Value.ownBlock (.slice (some ⟨wS.heap.size, 0, none⟩) 0 0) ≠ some b) := jz (fun b e e2 => by have e : wq1.heap.size = b := Option.some.inj e; have := (HO1.out.lt b e2).2; omega)
       rw [← hwq9]
       clear hwq9 hB9
       refine jW [2] ?_
       refine jS 2 (.load 34 (.tmp 49)) (some 50) (v) wq9 (hrun := fun o ho => by have hcell := HLV.out _ HB9.out; unfold execOp; simp only [ho]; go_simp) (HM.out _ HB9.out) ?_ jN
       simp only [j1, j2, j3, j4, j5]
       refine jW [3] ?_
       refine rAppR 3 tEnt (.tmp 48) (.tmp 50) (some 51) (by kernel_rfl) (by kernel_rfl) (by rfl) HO9.out (by rfl) (HOLD.out _ HB9.out) HONE.out (by unfold maxLen; omega) (by omega) HB9.out.size (fun v11 wq11 hown hgrow hblk => ?_) jN
       rw [List.nil_append, Nat.zero_add] at hown
       obtain ⟨a11, c11, hv11, _, _⟩ := own_snD hown
       subst hv11
       have HO11 := Lib.hid hown
       have HB11 : Hid (Below wS.heap.size wS wq11) := jz (HB9.out.grown hgrow HB9.out.size (fun g hg => (HO9.out.lt g hg).1))
       have HL11 : Hid (Sn wq11 33 (.slice (some ⟨wq1.heap.size, 0, none⟩) 1 1) 1 (entP q)) := jz (by obtain ⟨A, c, h1, h2, h3, h4⟩ := HL9.out; refine ⟨A, c, h1, h2, h3, fun hp => ?_⟩; obtain ⟨b, o, h5, h6⟩ := h4 hp; refine ⟨b, o, h5, fun j u hj => hgrow.cell (h6 j u hj) (fun e => ?_)⟩; exact HNE9.out b (by rw [h1, h5]; rfl) e.symm)
       clear hown hgrow hblk
       refine ⟨HM.out _ HB11.out, fun _ => ?_⟩
       simp only [j1, j2, j3, j4, j5]
       refine jW [6] ?_
       refine rAppR 6 tEnt (.tmp 51) (.tmp 53) (some 54) (by kernel_rfl) (by kernel_rfl) (by rfl) HO11.out (by rfl) HL11.out (entP_one q) (by unfold maxLen; omega) (by omega) HB11.out.size (fun v12 wq12 hown hgrow hblk => ?_) jN
       obtain ⟨a12, c12, hv12, _, _⟩ := own_snD hown
       subst hv12
       have HO12 := Lib.hid hown
       have HB12 : Hid (Below wS.heap.size wS wq12) := jz (HB11.out.grown hgrow HB11.out.size (fun g hg => (HO11.out.lt g hg).1))
       clear hown hgrow hblk
       refine ⟨HM.out _ HB12.out, fun _ => ?_⟩
       simp only [j1, j2, j3, j4, j5]
       have HFI := jz (HFIN.out wq12 (.slice a12 (L.es.length + 1) c12) HB12.out HO12.out)
       refine jT 7 (.fieldAddr 37 (.tmp 4) 4) (some 55) (.pointer (some ⟨N + 1, 4, none⟩)) (by assumption) ?_
       simp only [j1, j2, j3, j4, j5]
       have hHL := HHL.out _ HB12.out
       have hcg := (hHL.cell 4).trans (rlC_at4 v L)
       have hfg := hHL.frozen 4
       have hgg := hHL.lt
       have hRS : (wq12.setCell ⟨N + 1, 4, none⟩ (.slice a12 (L.es.length + 1) c12)).rangeAt (N + 2) 0 (entP q) := fun i u hi => (World.cell?_of_block (a := ⟨N + 2, 0 + i, none⟩) (Below.heap_setCell wq12 ⟨N + 1, 4, none⟩ _ (N + 2) (by show N + 2 ≠ N + 1; omega))).trans (HM.out _ HB12.out i u hi)
       refine jW [8] ?_
       refine rSkipR 8 (Op.store 34 (Operand.tmp 55) (Operand.tmp 54)) none (wq12.setCell ⟨N + 1, 4, none⟩ (.slice a12 (L.es.length + 1) c12)) (by kernel_rfl) (by kernel_rfl) (fun o ho => by unfold execOp; simp only [ho]; go_simp) hRS ?_ jN
       simp only [j1, j2, j3, j4, j5]
       refine wpAnyH_done (by kernel_rfl) ?_ _
       go_wp2_with fail
       go_meet
       exact ⟨_, HFI⟩
     ·simp only [j1, j2, j3, j4, j5]
      refine jW [0, 5] ?_
      refine jS 0 (.buildSlice 34 0 #[]) (some 48) (.slice (some ⟨wS.heap.size, 0, none⟩) 0 0) (wS.alloc (.cells #[] 43)) (HM.out _ (bstep HBS.out (bel1 _ _))) ?_ (rLit1M 5 tEnt (Operand.tmp 52) (some 53) (by kernel_rfl) (by kernel_rfl) (cs := entP q) (by rfl) HEL.out (by decide) (HM.out _ (bstep HBS.out (bel1 _ _))) ?_ jN)
      ·simp only [j1, j2, j3, j4, j5]
       obtain ⟨wq14, hwq14⟩ : ∃ wq14, wq14 = wS.alloc (.cells #[] 43) := ⟨_, rfl⟩
       have hB14 : Below wS.heap.size wS wq14 := by rw [hwq14]; exact bel1 _ _
       have HB14 := jz (bstep HBS.out hB14)
       have HO14 : Hid (wq14.ownsRow wS.heap.size 43 33 (.slice (some ⟨wS.heap.size, 0, none⟩) 0 0) 0 []) := jz (by rw [hwq14]; exact own_new wS #[] 43 33 0 wS.heap.size _ HBS.out.size rfl (by decide) rfl)
       rw [← hwq14]
       clear hwq14 hB14
       refine jW [3, 5] ?_
       refine rAppR 3 tEnt (.tmp 48) (.tmp 50) (some 51) (by kernel_rfl) (by kernel_rfl) (by rfl) HO14.out (by rfl) (HOLD.out _ HB14.out) HONE.out (by unfold maxLen; omega) (by omega) HB14.out.size (fun v15 wq15 hown hgrow hblk => ?_) (rLit1M 5 tEnt (Operand.tmp 52) (some 53) (by kernel_rfl) (by kernel_rfl) (cs := entP q) (by rfl) HEL.out (by decide) (HM.out _ (bstep HB14.out (bel1 _ _))) ?_ jN)
       ·rw [List.nil_append, Nat.zero_add] at hown
        obtain ⟨a15, c15, hv15, _, _⟩ := own_snD hown
        subst hv15
        have HO15 := Lib.hid hown
        have HB15 : Hid (Below wS.heap.size wS wq15) := jz (HB14.out.grown hgrow HB14.out.size (fun g hg => (HO14.out.lt g hg).1))
        clear hown hgrow hblk
        refine ⟨HM.out _ HB15.out, fun _ => ?_⟩
        simp only [j1, j2, j3, j4, j5]
        refine jW [5] ?_
        refine rLit1M 5 tEnt (Operand.tmp 52) (some 53) (by kernel_rfl) (by kernel_rfl) (cs := entP q) (by rfl) HEL.out (by decide) (HM.out _ (bstep HB15.out (bel1 _ _))) ?_ jN
        simp only [j1, j2, j3, j4, j5]
        obtain ⟨wq16, hwq16⟩ : ∃ wq16, wq16 = wq15.alloc (.cells (entP q).toArray 43) := ⟨_, rfl⟩
        have hB16 : Below wq15.heap.size wq15 wq16 := by rw [hwq16]; exact bel1 _ _
        have HB16 := jz (bstep HB15.out hB16)
        have HO16 := jz (own_below HO15.out hB16)
        have HL16 : Hid (Sn wq16 33 (.slice (some ⟨wq15.heap.size, 0, none⟩) 1 1) 1 (entP q)) := jz (by rw [hwq16]; have h := Sn.new wq15 (entP q).toArray 43 33 1 (by rw [List.size_toArray, HEL.out]); rw [List.toList_toArray] at h; exact h)
        have HLT16 : Hid (wq15.heap.size < wq16.heap.size) := jz (by rw [hwq16]; simp)
        rw [← hwq16]
        clear hwq16 hB16
        refine jW [6] ?_
        refine rAppR 6 tEnt (.tmp 51) (.tmp 53) (some 54) (by kernel_rfl) (by kernel_rfl) (by rfl) HO16.out (by rfl) HL16.out (entP_one q) (by unfold maxLen; omega) (by omega) HB16.out.size (fun v17 wq17 hown hgrow hblk => ?_) jN
        obtain ⟨a17, c17, hv17, _, _⟩ := own_snD hown
        subst hv17
        have HO17 := Lib.hid hown
        have HB17 : Hid (Below wS.heap.size wS wq17) := jz (HB16.out.grown hgrow HB16.out.size (fun g hg => (HO16.out.lt g hg).1))
        clear hown hgrow hblk
        refine ⟨HM.out _ HB17.out, fun _ => ?_⟩
        simp only [j1, j2, j3, j4, j5]
        have HFI := jz (HFIN.out wq17 (.slice a17 (L.es.length + 1) c17) HB17.out HO17.out)
        refine jT 7 (.fieldAddr 37 (.tmp 4) 4) (some 55) (.pointer (some ⟨N + 1, 4, none⟩)) (by assumption) ?_
        simp only [j1, j2, j3, j4, j5]
        have hHL := HHL.out _ HB17.out
        have hcg := (hHL.cell 4).trans (rlC_at4 v L)
        have hfg := hHL.frozen 4
        have hgg := hHL.lt
        have hRS : (wq17.setCell ⟨N + 1, 4, none⟩ (.slice a17 (L.es.length + 1) c17)).rangeAt (N + 2) 0 (entP q) := fun i u hi => (World.cell?_of_block (a := ⟨N + 2, 0 + i, none⟩) (Below.heap_setCell wq17 ⟨N + 1, 4, none⟩ _ (N + 2) (by show N + 2 ≠ N + 1; omega))).trans (HM.out _ HB17.out i u hi)
        refine jW [8] ?_
        refine rSkipR 8 (Op.store 34 (Operand.tmp 55) (Operand.tmp 54)) none (wq17.setCell ⟨N + 1, 4, none⟩ (.slice a17 (L.es.length + 1) c17)) (by kernel_rfl) (by kernel_rfl) (fun o ho => by unfold execOp; simp only [ho]; go_simp) hRS ?_ jN
        simp only [j1, j2, j3, j4, j5]
        refine wpAnyH_done (by kernel_rfl) ?_ _
        go_wp2_with fail
        go_meet
        exact ⟨_, HFI⟩
       ·simp only [j1, j2, j3, j4, j5]
        obtain ⟨wq18, hwq18⟩ : ∃ wq18, wq18 = wq14.alloc (.cells (entP q).toArray 43) := ⟨_, rfl⟩
        have hB18 : Below wq14.heap.size wq14 wq18 := by rw [hwq18]; exact bel1 _ _
        have HB18 := jz (bstep HB14.out hB18)
        have HO18 := jz (own_below HO14.out hB18)
        have HL18 : Hid (Sn wq18 33 (.slice (some ⟨wq14.heap.size, 0, none⟩) 1 1) 1 (entP q)) := jz (by rw [hwq18]; have h := Sn.new wq14 (entP q).toArray 43 33 1 (by rw [List.size_toArray, HEL.out]); rw [List.toList_toArray] at h; exact h)
        have HLT18 : Hid (wq14.heap.size < wq18.heap.size) := jz (by rw [hwq18]; simp)
        have HNE18 : Hid (∀ b, (Value.slice (some ⟨wq14.heap.size, 0, none⟩) 1 1).ownBlock = some b → Value.ownBlock (.slice (some ⟨wS.heap.size, 0, none⟩) 0 0) ≠ some b) := jz (fun b e e2 => by have e : wq14.heap.size = b := Option.some.inj e; have := (HO14.out.lt b e2).2; omega)
        rw [← hwq18]
        clear hwq18 hB18
        refine jW [3] ?_
        refine rAppR 3 tEnt (.tmp 48) (.tmp 50) (some 51) (by kernel_rfl) (by kernel_rfl) (by rfl) HO18.out (by rfl) (HOLD.out _ HB18.out) HONE.out (by unfold maxLen; omega) (by omega) HB18.out.size (fun v19 wq19 hown hgrow hblk => ?_) jN
        rw [List.nil_append, Nat.zero_add] at hown
        obtain ⟨a19, c19, hv19, _, _⟩ := own_snD hown
        subst hv19
        have HO19 := Lib.hid hown
        have HB19 : Hid (Below wS.heap.size wS wq19) := jz (HB18.out.grown hgrow HB18.out.size (fun g hg => (HO18.out.lt g hg).1))
        have HL19 : Hid (Sn wq19 33 (.slice (some ⟨wq14.heap.size, 0, none⟩) 1 1) 1 (entP q)) := jz (by obtain ⟨A, c, h1, h2, h3, h4⟩ := HL18.out; refine ⟨A, c, h1, h2, h3, fun hp => ?_⟩; obtain ⟨b, o, h5, h6⟩ := h4 hp; refine ⟨b, o, h5, fun j u hj => hgrow.cell (h6 j u hj) (fun e => ?_)⟩; exact HNE18.out b (by rw [h1, h5]; rfl) e.symm)
        clear hown hgrow hblk
        refine ⟨HM.out _ HB19.out, fun _ => ?_⟩
        simp only [j1, j2, j3, j4, j5]
        refine jW [6] ?_
        refine rAppR 6 tEnt (.tmp 51) (.tmp 53) (some 54) (by kernel_rfl) (by kernel_rfl) (by rfl) HO19.out (by rfl) HL19.out (entP_one q) (by unfold maxLen; omega) (by omega) HB19.out.size (fun v20 wq20 hown hgrow hblk => ?_) jN
        obtain ⟨a20, c20, hv20, _, _⟩ := own_snD hown
        subst hv20
        have HO20 := Lib.hid hown
        have HB20 : Hid (Below wS.heap.size wS wq20) := jz (HB19.out.grown hgrow HB19.out.size (fun g hg => (HO19.out.lt g hg).1))
        clear hown hgrow hblk
        refine ⟨HM.out _ HB20.out, fun _ => ?_⟩
        simp only [j1, j2, j3, j4, j5]
        have HFI := jz (HFIN.out wq20 (.slice a20 (L.es.length + 1) c20) HB20.out HO20.out)
        refine jT 7 (.fieldAddr 37 (.tmp 4) 4) (some 55) (.pointer (some ⟨N + 1, 4, none⟩)) (by assumption) ?_
        simp only [j1, j2, j3, j4, j5]
        have hHL := HHL.out _ HB20.out
        have hcg := (hHL.cell 4).trans (rlC_at4 v L)
        have hfg := hHL.frozen 4
        have hgg := hHL.lt
        have hRS : (wq20.setCell ⟨N + 1, 4, none⟩ (.slice a20 (L.es.length + 1) c20)).rangeAt (N + 2) 0 (entP q) := fun i u hi => (World.cell?_of_block (a := ⟨N + 2, 0 + i, none⟩) (Below.heap_setCell wq20 ⟨N + 1, 4, none⟩ _ (N + 2) (by show N + 2 ≠ N + 1; omega))).trans (HM.out _ HB20.out i u hi)
        refine jW [8] ?_
        refine rSkipR 8 (Op.store 34 (Operand.tmp 55) (Operand.tmp 54)) none (wq20.setCell ⟨N + 1, 4, none⟩ (.slice a20 (L.es.length + 1) c20)) (by kernel_rfl) (by kernel_rfl) (fun o ho => by unfold execOp; simp only [ho]; go_simp) hRS ?_ jN
        simp only [j1, j2, j3, j4, j5]
        refine wpAnyH_done (by kernel_rfl) ?_ _
        go_wp2_with fail
        go_meet
        exact ⟨_, HFI⟩
      ·simp only [j1, j2, j3, j4, j5]
       obtain ⟨wq21, hwq21⟩ : ∃ wq21, wq21 = wS.alloc (.cells (entP q).toArray 43) := ⟨_, rfl⟩
       have hB21 : Below wS.heap.size wS wq21 := by rw [hwq21]; exact bel1 _ _
       have HB21 := jz (bstep HBS.out hB21)
       have HL21 : Hid (Sn wq21 33 (.slice (some ⟨wS.heap.size, 0, none⟩) 1 1) 1 (entP q)) := jz (by rw [hwq21]; have h := Sn.new wS (entP q).toArray 43 33 1 (by rw [List.size_toArray, HEL.out]); rw [List.toList_toArray] at h; exact h)
       have HLT21 : Hid (wS.heap.size < wq21.heap.size) := jz (by rw [hwq21]; simp)
       rw [← hwq21]
       clear hwq21 hB21
       refine jW [0] ?_
       refine jS 0 (.buildSlice 34 0 #[]) (some 48) (.slice (some ⟨wq21.heap.size, 0, none⟩) 0 0) (wq21.alloc (.cells #[] 43)) (HM.out _ (bstep HB21.out (bel1 _ _))) ?_ jN
       simp only [j1, j2, j3, j4, j5]
       obtain ⟨wq22, hwq22⟩ : ∃ wq22, wq22 = wq21.alloc (.cells #[] 43) := ⟨_, rfl⟩
       have hB22 : Below wq21.heap.size wq21 wq22 := by rw [hwq22]; exact bel1 _ _
       have HB22 := jz (bstep HB21.out hB22)
       have HL22 := jz (HL21.out.below hB22)
       have HO22 : Hid (wq22.ownsRow wS.heap.size 43 33 (.slice (some ⟨wq21.heap.size, 0, none⟩) 0 0) 0 []) := jz (by rw [hwq22]; exact own_new wq21 #[] 43 33 0 wS.heap.size _ HB21.out.size rfl (by decide) rfl)
       have HNE22 : Hid (∀ b, (Value.slice (some ⟨wS.heap.size, 0, none⟩) 1 1).ownBlock = some b → Value.ownBlock (.slice (some ⟨wq21.heap.size, 0, none⟩) 0 0) ≠ some b) := jz (fun b e e2 => by have e : wS.heap.size = b := Option.some.inj e; have e2 : wq21.heap.size = b := Option.some.inj e2; have := HLT21.out; omega)
       rw [← hwq22]
       clear hwq22 hB22
       refine jW [3] ?_
       refine rAppR 3 tEnt (.tmp 48) (.tmp 50) (some 51) (by kernel_rfl) (by kernel_rfl) (by rfl) HO22.out (by rfl) (HOLD.out _ HB22.out) HONE.out (by unfold maxLen; omega) (by omega) HB22.out.size (fun v23 wq23 hown hgrow hblk => ?_) jN
       rw [List.nil_append, Nat.zero_add] at hown
       obtain ⟨a23, c23, hv23, _, _⟩ := own_snD hown
       subst hv23
       have HO23 := Lib.hid hown
       have HB23 : Hid (Below wS.heap.size wS wq23) := jz (HB22.out.grown hgrow HB22.out.size (fun g hg => (HO22.out.lt g hg).1))
       have HL23 : Hid (Sn wq23 33 (.slice (some ⟨wS.heap.size, 0, none⟩) 1 1) 1 (entP q)) := jz (by obtain ⟨A, c, h1, h2, h3, h4⟩ := HL22.out; refine ⟨A, c, h1, h2, h3, fun hp => ?_⟩; obtain ⟨b, o, h5, h6⟩ := h4 hp; refine ⟨b, o, h5, fun j u hj => hgrow.cell (h6 j u hj) (fun e => ?_)⟩; exact HNE22.out b (by rw [h1, h5]; rfl) e.symm)
       clear hown hgrow hblk
       refine ⟨HM.out _ HB23.out, fun _ => ?_⟩
       simp only [j1, j2, j3, j4, j5]
       refine jW [6] ?_
       refine rAppR 6 tEnt (.tmp 51) (.tmp 53) (some 54) (by kernel_rfl) (by kernel_rfl) (by rfl) HO23.out (by rfl) HL23.out (entP_one q) (by unfold maxLen; omega) (by omega) HB23.out.size (fun v24 wq24 hown hgrow hblk => ?_) jN
       obtain ⟨a24, c24, hv24, _, _⟩ := own_snD hown
       subst hv24
       have HO24 := Lib.hid hown
       have HB24 : Hid (Below wS.heap.size wS wq24) := jz (HB23.out.grown hgrow HB23.out.size (fun g hg => (HO23.out.lt g hg).1))
       clear hown hgrow hblk
       refine ⟨HM.out _ HB24.out, fun _ => ?_⟩
       simp only [j1, j2, j3, j4, j5]
       have HFI := jz (HFIN.out wq24 (.slice a24 (L.es.length + 1) c24) HB24.out HO24.out)
       refine jT 7 (.fieldAddr 37 (.tmp 4) 4) (some 55) (.pointer (some ⟨N + 1, 4, none⟩)) (by assumption) ?_
       simp only [j1, j2, j3, j4, j5]
       have hHL := HHL.out _ HB24.out
       have hcg := (hHL.cell 4).trans (rlC_at4 v L)
       have hfg := hHL.frozen 4
       have hgg := hHL.lt
       have hRS : (wq24.setCell ⟨N + 1, 4, none⟩ (.slice a24 (L.es.length + 1) c24)).rangeAt (N + 2) 0 (entP q) := fun i u hi => (World.cell?_of_block (a := ⟨N + 2, 0 + i, none⟩) (Below.heap_setCell wq24 ⟨N + 1, 4, none⟩ _ (N + 2) (by show N + 2 ≠ N + 1; omega))).trans (HM.out _ HB24.out i u hi)
       refine jW [8] ?_
       refine rSkipR 8 (Op.store 34 (Operand.tmp 55) (Operand.tmp 54)) none (wq24.setCell ⟨N + 1, 4, none⟩ (.slice a24 (L.es.length + 1) c24)) (by kernel_rfl) (by kernel_rfl) (fun o ho => by unfold execOp; simp only [ho]; go_simp) hRS ?_ jN
       simp only [j1, j2, j3, j4, j5]
       refine wpAnyH_done (by kernel_rfl) ?_ _
       go_wp2_with fail
       go_meet
       exact ⟨_, HFI⟩
     ·simp only [j1, j2, j3, j4, j5]
      obtain ⟨wq25, hwq25⟩ : ∃ wq25, wq25 = wS.alloc (.cells (entP q).toArray 43) := ⟨_, rfl⟩
      have hB25 : Below wS.heap.size wS wq25 := by rw [hwq25]; exact bel1 _ _
      have HB25 := jz (bstep HBS.out hB25)
      have HL25 : Hid (Sn wq25 33 (.slice (some ⟨wS.heap.size, 0, none⟩) 1 1) 1 (entP q)) := jz (by rw [hwq25]; have h := Sn.new wS (entP q).toArray 43 33 1 (by rw [List.size_toArray, HEL.out]); rw [List.toList_toArray] at h; exact h)
      have HLT25 : Hid (wS.heap.size < wq25.heap.size) := jz (by rw [hwq25]; simp)
      rw [← hwq25]
      clear hwq25 hB25
      refine jW [0, 2] ?_
      refine jS 0 (.buildSlice 34 0 #[]) (some 48) (.slice (some ⟨wq25.heap.size, 0, none⟩) 0 0) (wq25.alloc (.cells #[] 43)) (HM.out _ (bstep HB25.out (bel1 _ _))) ?_ (jS 2 (.load 34 (.tmp 49)) (some 50) (v) wq25 (hrun := fun o ho => by have hcell := HLV.out _ HB25.out; unfold execOp; simp only [ho]; go_simp) (HM.out _ HB25.out) ?_ jN)
      ·simp only [j1, j2, j3, j4, j5]
       obtain ⟨wq26, hwq26⟩ : ∃ wq26, wq26 = wq25.alloc (.cells #[] 43) := ⟨_, rfl⟩
       have hB26 : Below wq25.heap.size wq25 wq26 := by rw [hwq26]; exact bel1 _ _
       have HB26 := jz (bstep HB25.out hB26)
       have HL26 := jz (HL25.out.below hB26)
       have HO26 : Hid (wq26.ownsRow wS.heap.size 43 33 (.slice (some ⟨wq25.heap.size, 0, none⟩) 0 0) 0 []) := jz (by rw [hwq26]; exact own_new wq25 #[] 43 33 0 wS.heap.size _ HB25.out.size rfl (by decide) rfl)
       have HNE26 : Hid (∀ b, (Value.slice (some ⟨wS.heap.size, 0, none⟩) 1 1).ownBlock = some b → Value.ownBlock (.slice (some ⟨wq25.heap.size, 0, none⟩) 0 0) ≠ some b) := jz (fun b e e2 => by have e : wS.heap.size = b := Option.some.inj e; have e2 : wq25.heap.size = b := Option.some.inj e2; have := HLT25.out; omega)
       rw [← hwq26]
       clear hwq26 hB26
       refine jW [2] ?_
       refine jS 2 (.load 34 (.tmp 49)) (some 50) (v) wq26 (hrun := fun o ho => by have hcell := HLV.out _ HB26.out; unfold execOp; simp only [ho]; go_simp) (HM.out _ HB26.out) ?_ jN
       simp only [j1, j2, j3, j4, j5]
       refine jW [3] ?_
       refine rAppR 3 tEnt (.tmp 48) (.tmp 50) (some 51) (by kernel_rfl) (by kernel_rfl) (by rfl) HO26.out (by rfl) (HOLD.out _ HB26.out) HONE.out (by unfold maxLen; omega) (by omega) HB26.out.size (fun v28 wq28 hown hgrow hblk => ?_) jN
       rw [List.nil_append, Nat.zero_add] at hown
       obtain ⟨a28, c28, hv28, _, _⟩ := own_snD hown
       subst hv28
       have HO28 := Lib.hid hown
       have HB28 : Hid (Below wS.heap.size wS wq28) := jz (HB26.out.grown hgrow HB26.out.size (fun g hg => (HO26.out.lt g hg).1))
       have HL28 : Hid (Sn wq28 33 (.slice (some ⟨wS.heap.size, 0, none⟩) 1 1) 1 (entP q)) := jz (by obtain ⟨A, c, h1, h2, h3, h4⟩ := HL26.out; refine ⟨A, c, h1, h2, h3, fun hp => ?_⟩; obtain ⟨b, o, h5, h6⟩ := h4 hp; refine ⟨b, o, h5, fun j u hj => hgrow.cell (h6 j u hj) (fun e => ?_)⟩; exact HNE26.out b (by rw [h1, h5]; rfl) e.symm)
       clear hown hgrow hblk
       refine ⟨HM.out _ HB28.out, fun _ => ?_⟩
       simp only [j1, j2, j3, j4, j5]
       refine jW [6] ?_
       refine rAppR 6 tEnt (.tmp 51) (.tmp 53) (some 54) (by kernel_rfl) (by kernel_rfl) (by rfl) HO28.out (by rfl) HL28.out (entP_one q) (by unfold maxLen; omega) (by omega) HB28.out.size (fun v29 wq29 hown hgrow hblk => ?_) jN
       obtain ⟨a29, c29, hv29, _, _⟩ := own_snD hown
       subst hv29
       have HO29 := Lib.hid hown
       have HB29 : Hid (Below wS.heap.size wS wq29) := jz (HB28.out.grown hgrow HB28.out.size (fun g hg => (HO28.out.lt g hg).1))
       clear hown hgrow hblk
       refine ⟨HM.out _ HB29.out, fun _ => ?_⟩
       simp only [j1, j2, j3, j4, j5]
       have HFI := jz (HFIN.out wq29 (.slice a29 (L.es.length + 1) c29) HB29.out HO29.out)
       refine jT 7 (.fieldAddr 37 (.tmp 4) 4) (some 55) (.pointer (some ⟨N + 1, 4, none⟩)) (by assumption) ?_
       simp only [j1, j2, j3, j4, j5]
       have hHL := HHL.out _ HB29.out
       have hcg := (hHL.cell 4).trans (rlC_at4 v L)
       have hfg := hHL.frozen 4
       have hgg := hHL.lt
       have hRS : (wq29.setCell ⟨N + 1, 4, none⟩ (.slice a29 (L.es.length + 1) c29)).rangeAt (N + 2) 0 (entP q) := fun i u hi => (World.cell?_of_block (a := ⟨N + 2, 0 + i, none⟩) (Below.heap_setCell wq29 ⟨N + 1, 4, none⟩ _ (N + 2) (by show N + 2 ≠ N + 1; omega))).trans (HM.out _ HB29.out i u hi)
       refine jW [8] ?_
       refine rSkipR 8 (Op.store 34 (Operand.tmp 55) (Operand.tmp 54)) none (wq29.setCell ⟨N + 1, 4, none⟩ (.slice a29 (L.es.length + 1) c29)) (by kernel_rfl) (by kernel_rfl) (fun o ho => by unfold execOp; simp only [ho]; go_simp) hRS ?_ jN
       simp only [j1, j2, j3, j4, j5]
       refine wpAnyH_done (by kernel_rfl) ?_ _
       go_wp2_with fail
       go_meet
       exact ⟨_, HFI⟩
      ·simp only [j1, j2, j3, j4, j5]
       refine jW [0] ?_
       refine jS 0 (.buildSlice 34 0 #[]) (some 48) (.slice (some ⟨wq25.heap.size, 0, none⟩) 0 0) (wq25.alloc (.cells #[] 43)) (HM.out _ (bstep HB25.out (bel1 _ _))) ?_ jN
       simp only [j1, j2, j3, j4, j5]
       obtain ⟨wq31, hwq31⟩ : ∃ wq31, wq31 = wq25.alloc (.cells #[] 43) := ⟨_, rfl⟩
       have hB31 : Below wq25.heap.size wq25 wq31 := by rw [hwq31]; exact bel1 _ _
       have HB31 := jz (bstep HB25.out hB31)
       have HL31 := jz (HL25.out.below hB31)
       have HO31 : Hid (wq31.ownsRow wS.heap.size 43 33 (.slice (some ⟨wq25.heap.size, 0, none⟩) 0 0) 0 []) := jz (by rw [hwq31]; exact own_new wq25 #[] 43 33 0 wS.heap.size _ HB25.out.size rfl (by decide) rfl)
       have HNE31 : Hid (∀ b, (Value.slice (some ⟨wS.heap.size, 0, none⟩) 1 1).ownBlock = some b → Value.ownBlock (.slice (some ⟨wq25.heap.size, 0, none⟩) 0 0) ≠ some b) := jz (fun b e e2 => by have e : wS.heap.size = b := Option.some.inj e; have e2 : wq25.heap.size = b := Option.some.inj e2; have := HLT25.out; omega)
       rw [← hwq31]
       clear hwq31 hB31
       refine jW [3] ?_
       refine rAppR 3 tEnt (.tmp 48) (.tmp 50) (some 51) (by kernel_rfl) (by kernel_rfl) (by rfl) HO31.out (by rfl) (HOLD.out _ HB31.out) HONE.out (by unfold maxLen; omega) (by omega) HB31.out.size (fun v32 wq32 hown hgrow hblk => ?_) jN
       rw [List.nil_append, Nat.zero_add] at hown
       obtain ⟨a32, c32, hv32, _, _⟩ := own_snD hown
       subst hv32
       have HO32 := Lib.hid hown
       have HB32 : Hid (Below wS.heap.size wS wq32) := jz (HB31.out.grown hgrow HB31.out.size (fun g hg => (HO31.out.lt g hg).1))
       have HL32 : Hid (Sn wq32 33 (.slice (some ⟨wS.heap.size, 0, none⟩) 1 1) 1 (entP q)) := jz (by obtain ⟨A, c, h1, h2, h3, h4⟩ := HL31.out; refine ⟨A, c, h1, h2, h3, fun hp => ?_⟩; obtain ⟨b, o, h5, h6⟩ := h4 hp; refine ⟨b, o, h5, fun j u hj => hgrow.cell (h6 j u hj) (fun e => ?_)⟩; exact HNE31.out b (by rw [h1, h5]; rfl) e.symm)
       clear hown hgrow hblk
       refine ⟨HM.out _ HB32.out, fun _ => ?_⟩
       simp only [j1, j2, j3, j4, j5]
       refine jW [6] ?_
       refine rAppR 6 tEnt (.tmp 51) (.tmp 53) (some 54) (by kernel_rfl) (by kernel_rfl) (by rfl) HO32.out (by rfl) HL32.out (entP_one q) (by unfold maxLen; omega) (by omega) HB32.out.size (fun v33 wq33 hown hgrow hblk => ?_) jN
       obtain ⟨a33, c33, hv33, _, _⟩ := own_snD hown
       subst hv33
       have HO33 := Lib.hid hown
       have HB33 : Hid (Below wS.heap.size wS wq33) := jz (HB32.out.grown hgrow HB32.out.size (fun g hg => (HO32.out.lt g hg).1))
       clear hown hgrow hblk
       refine ⟨HM.out _ HB33.out, fun _ => ?_⟩
       simp only [j1, j2, j3, j4, j5]
       have HFI := jz (HFIN.out wq33 (.slice a33 (L.es.length + 1) c33) HB33.out HO33.out)
       refine jT 7 (.fieldAddr 37 (.tmp 4) 4) (some 55) (.pointer (some ⟨N + 1, 4, none⟩)) (by assumption) ?_
       simp only [j1, j2, j3, j4, j5]
       have hHL := HHL.out _ HB33.out
       have hcg := (hHL.cell 4).trans (rlC_at4 v L)
       have hfg := hHL.frozen 4
       have hgg := hHL.lt
       have hRS : (wq33.setCell ⟨N + 1, 4, none⟩ (.slice a33 (L.es.length + 1) c33)).rangeAt (N + 2) 0 (entP q) := fun i u hi => (World.cell?_of_block (a := ⟨N + 2, 0 + i, none⟩) (Below.heap_setCell wq33 ⟨N + 1, 4, none⟩ _ (N + 2) (by show N + 2 ≠ N + 1; omega))).trans (HM.out _ HB33.out i u hi)
       refine jW [8] ?_
       refine rSkipR 8 (Op.store 34 (Operand.tmp 55) (Operand.tmp 54)) none (wq33.setCell ⟨N + 1, 4, none⟩ (.slice a33 (L.es.length + 1) c33)) (by kernel_rfl) (by kernel_rfl) (fun o ho => by unfold execOp; simp only [ho]; go_simp) hRS ?_ jN
       simp only [j1, j2, j3, j4, j5]
       refine wpAnyH_done (by kernel_rfl) ?_ _
       go_wp2_with fail
       go_meet
       exact ⟨_, HFI⟩
    case rest =>
     obtain ⟨v9, HX9⟩ := hcut
     rename World => w9
     go_upto_region 10 with fail
     go_cut [8] from 56 to 57 (fun x W => x = .int .i64 0 ∧ Hid (R2 w.heap.size w9 W (N + 3) (N + 4) 31 37 (refC m2 r2) (rlC v9 (({ L with es := L.es ++ [q] })))))
     case first =>
      obtain ⟨wS, hwS⟩ : ∃ wS, wS = w9.drew := ⟨_, rfl⟩
      have hbS : Below w9.heap.size w9 wS := by rw [hwS]; exact (Below.refl _ _).drew
      have HRS : Hid (R2 w.heap.size w9 wS (N + 3) (N + 4) 31 37 refZ rlZ) := jz ((R2.start HX9.out.a HX9.out.b HX9.out.p.n2.2.2 ⟨HX9.out.p.lo.2.2.1, HX9.out.p.lo.2.2.2⟩).keep hbS)
      have HDO : Hid (∀ xA xB W, R2 w.heap.size w9 W (N + 3) (N + 4) 31 37 xA xB → Blk W (N) 31 (refC m2 r2) ∧ Blk W (N + 1) 37 (rlC v9 ({ L with es := L.es ++ [q] }))) := jz (fun xA xB W k => ⟨k.old HX9.out.d HX9.out.p.n1.2.1 HX9.out.p.n1.2.2, k.old HX9.out.l HX9.out.p.n2.1 HX9.out.p.n2.2.1⟩)
      have HOD : Hid (∀ u ∈ (refC m2 r2).toList, u.oneCell' = true) := jz (fun u hu => by have := refC_one HX9.out.k; rw [Array.all_eq_true_iff_forall_mem] at this; exact this u (by simpa using hu))
      have HOL : Hid (∀ u ∈ (rlC v9 (({ L with es := L.es ++ [q] }))).toList, u.oneCell' = true) := jz (fun u hu => by have := rlC_one (L := ({ L with es := L.es ++ [q] })) (HX9.out.lk); rw [Array.all_eq_true_iff_forall_mem] at this; exact this u (by simpa using hu))
      clear hbS
      refine held_start 5 (fun W => Blk W (N) 31 (refC m2 r2) ∧ Blk W (N + 1) 37 (rlC v9 ({ L with es := L.es ++ [q] }))) (by kernel_rfl) (by kernel_rfl) (by rw [← hwS]; exact HDO.out _ _ _ HRS.out) (fun hHeld => ?_)
      rw [← hwS] at hHeld ⊢
      clear hwS
      refine jL 0 31 (.tmp 3) (some 56) (cs := (refC m2 r2).toList) (fun _ hX => hX.1.range) Tryz.underlying31 rfl (hlenD _ _) hHeld ?_
      simp only [j1, j2, j3, j4, j5]
      refine jL 1 37 (.tmp 4) (some 57) (cs := (rlC v9 ({ L with es := L.es ++ [q] })).toList) (fun _ hX => hX.2.range) Tryz.underlying37 rfl (hlenL _ _) hHeld ?_
      simp only [j1, j2, j3, j4, j5]
      refine jW [2] ?_
      refine jR 2 31 (.tmp 6) (.tmp 56) none (cs := (refC m2 r2).toList) (there_all HRS.out.a rfl) (hlenD _ _) (HOD.out) (HDO.out _ _ _ (jz (HRS.out.stA ((refC m2 r2).toList) rfl)).out) ?_ jN
      simp only [j1, j2, j3, j4, j5]
      obtain ⟨wk1, hwk1⟩ : ∃ wx, wx = (wS.setCells (N + 3) 0 ((refC m2 r2).toList)) := ⟨_, rfl⟩
      have HR1 := jz (HRS.out.stA ((refC m2 r2).toList) rfl)
      rw [← hwk1] at HR1 ⊢
      clear hwk1
      refine jW [3] ?_
      refine jR 3 37 (.tmp 7) (.tmp 57) none (cs := (rlC v9 (({ L with es := L.es ++ [q] }))).toList) (there_all HR1.out.b rfl) (hlenL _ _) (HOL.out) (HDO.out _ _ _ (jz (HR1.out.stB ((rlC v9 (({ L with es := L.es ++ [q] }))).toList) rfl)).out) ?_ jN
      simp only [j1, j2, j3, j4, j5]
      obtain ⟨wk2, hwk2⟩ : ∃ wx, wx = (wk1.setCells (N + 4) 0 ((rlC v9 (({ L with es := L.es ++ [q] }))).toList)) := ⟨_, rfl⟩
      have HR2 := jz (HR1.out.stB ((rlC v9 (({ L with es := L.es ++ [q] }))).toList) rfl)
      rw [← hwk2] at HR2 ⊢
      clear hwk2
      refine jT 4 (.assign (.const (.int .i64 0))) (some 8) (.int .i64 0) (HDO.out _ _ _ HR2.out) ?_
      simp only [j1, j2, j3, j4, j5]
      refine wpAnyH_done (by kernel_rfl) ?_ _
      go_wp2_with fail
      go_meet
      exact ⟨rfl, HR2⟩
     case rest =>
      obtain ⟨rfl, HRR⟩ := hcut
      rename World => wz
      have hfin := HX9.out.ret HRR.out (HX9.out.lk) (fun _ e => e)
      go_wp2_with fail
      exact bodyPost_ret (results_cell2 rfl _ rfl HRR.out.a.range Tryz.underlying31 rfl refI rfl HRR.out.b.range Tryz.underlying37 rfl rlI) rfl ⟨m2, v9, by rw [HF.out.1, HF.out.2.1, HF2.out]; rfl, by rw [HF.out.2.1]; exact hfin.1, by rw [HF2.out]; exact hfin.2.1, hfin.2.2.1, by rw [HF.out.2.1]; exact hfin.2.2.2.1, hfin.2.2.2.2⟩
   ·have hcn : ¬ c = 0 := by simpa using t0
    have HF2 : Hid (rappL r L q = rafter L c) := jz (by rw [HF.out.2.2]; unfold rappM; rw [if_neg hcn])
    have hne0 : (c != 0) = true := by simp [hcn]
    have HAF := jz (fun W (k : X19 w W m r v m2 r2 v L N (N + 1) (N + 3) (N + 4)) => ref19_after v L c W k.lk)
    clear hcn t0
    go_upto_region 8 with fail
    go_cut [8] from 43 to 47 (fun x W => x = .int .i64 c ∧ Hid (R2 w.heap.size w3 W (N + 3) (N + 4) 31 37 (refC m2 r2) (rlC v (rafter L c))))
    case first =>
     obtain ⟨wS, hwS⟩ : ∃ wS, wS = w3.drew := ⟨_, rfl⟩
     have hbS : Below w3.heap.size w3 wS := by rw [hwS]; exact (Below.refl _ _).drew
     have HRS : Hid (R2 w.heap.size w3 wS (N + 3) (N + 4) 31 37 refZ rlZ) := jz ((R2.start HX3.out.a HX3.out.b HX3.out.p.n2.2.2 ⟨HX3.out.p.lo.2.2.1, HX3.out.p.lo.2.2.2⟩).keep hbS)
     have HDO : Hid (∀ xA xB W, R2 w.heap.size w3 W (N + 3) (N + 4) 31 37 xA xB → Blk W (N) 31 (refC m2 r2) ∧ Blk W (N + 1) 37 (rlC v L)) := jz (fun xA xB W k => ⟨k.old HX3.out.d HX3.out.p.n1.2.1 HX3.out.p.n1.2.2, k.old HX3.out.l HX3.out.p.n2.1 HX3.out.p.n2.2.1⟩)
     have HOD : Hid (∀ u ∈ (refC m2 r2).toList, u.oneCell' = true) := jz (fun u hu => by have := refC_one HX3.out.k; rw [Array.all_eq_true_iff_forall_mem] at this; exact this u (by simpa using hu))
     have HOL : Hid (∀ u ∈ (rlC v (rafter L c)).toList, u.oneCell' = true) := jz (fun u hu => by have := rlC_one (L := rafter L c) (⟨HX3.out.lk.sn, HX3.out.lk.ok, HX3.out.lk.ln, HX3.out.lk.side, HX3.out.lk.gen, HX3.out.lk.last, HX3.out.lk.lt⟩); rw [Array.all_eq_true_iff_forall_mem] at this; exact this u (by simpa using hu))
     have HXS := jz (HX3.out.keep hbS)
     clear hbS
     refine held_start 8 (fun W => Blk W (N) 31 (refC m2 r2) ∧ Blk W (N + 1) 37 (rlC v L)) (by kernel_rfl) (by kernel_rfl) (by rw [← hwS]; exact HDO.out _ _ _ HRS.out) (fun hHeld => ?_)
     rw [← hwS] at hHeld ⊢
     clear hwS
     refine jL 0 31 (.tmp 3) (some 43) (cs := (refC m2 r2).toList) (fun _ hX => hX.1.range) Tryz.underlying31 rfl (hlenD _ _) hHeld ?_
     simp only [j1, j2, j3, j4, j5]
     refine jL 1 37 (.tmp 4) (some 44) (cs := (rlC v L).toList) (fun _ hX => hX.2.range) Tryz.underlying37 rfl (hlenL _ _) hHeld ?_
     simp only [j1, j2, j3, j4, j5]
     refine jM 2 (.tmp 10) (some 45) (.int .i64 c) hHeld ?_
     simp only [j1, j2, j3, j4, j5]
     refine jM 4 (.tmp 10) (some 47) (.int .i64 c) hHeld ?_
     simp only [j1, j2, j3, j4, j5]
     refine jW [3] ?_
     refine jC 3 (.call { callee := .value (.func 48), args := #[.tmp 44, .tmp 45], argTypes := #[37, 3] }) (some 46) 48 (#[.agg (rlC v L), .int .i64 c]) ?_ jN
     refine (ref19_after v L c wS (HRS.out.rlk HX3.out.lk (HX3.out.nd _ (.inr (.inr (.inl rfl)))).2 (HX3.out.nd _ (.inr (.inr (.inr rfl)))).2)).mono ?_
     rintro e wk1 ⟨rfl, hk1⟩
     have HR1 := jz (HRS.out.keep hk1)
     clear hk1
     refine ⟨_, rfl, HDO.out _ _ _ HR1.out, fun _ => ?_⟩
     simp only [j1, j2, j3, j4, j5]
     refine jW [5] ?_
     refine jR 5 31 (.tmp 6) (.tmp 43) none (cs := (refC m2 r2).toList) (there_all HR1.out.a rfl) (hlenD _ _) (HOD.out) (HDO.out _ _ _ (jz (HR1.out.stA ((refC m2 r2).toList) rfl)).out) ?_ jN
     simp only [j1, j2, j3, j4, j5]
     obtain ⟨wk2, hwk2⟩ : ∃ wx, wx = (wk1.setCells (N + 3) 0 ((refC m2 r2).toList)) := ⟨_, rfl⟩
     have HR2 := jz (HR1.out.stA ((refC m2 r2).toList) rfl)
     rw [← hwk2] at HR2 ⊢
     clear hwk2
     refine jW [6] ?_
     refine jR 6 37 (.tmp 7) (.tmp 46) none (cs := (rlC v (rafter L c)).toList) (there_all HR2.out.b rfl) (hlenL _ _) (HOL.out) (HDO.out _ _ _ (jz (HR2.out.stB ((rlC v (rafter L c)).toList) rfl)).out) ?_ jN
     simp only [j1, j2, j3, j4, j5]
     obtain ⟨wk3, hwk3⟩ : ∃ wx, wx = (wk2.setCells (N + 4) 0 ((rlC v (rafter L c)).toList)) := ⟨_, rfl⟩
     have HR3 := jz (HR2.out.stB ((rlC v (rafter L c)).toList) rfl)
     rw [← hwk3] at HR3 ⊢
     clear hwk3
     refine jT 7 (.assign (.tmp 47)) (some 8) (.int .i64 c) (HDO.out _ _ _ HR3.out) ?_
     simp only [j1, j2, j3, j4, j5]
     refine wpAnyH_done (by kernel_rfl) ?_ _
     go_wp2_with fail
     go_meet
     exact ⟨rfl, HR3⟩
    case rest =>
     obtain ⟨rfl, HRR⟩ := hcut
     rename World => wz
     have hfin := HX3.out.ret HRR.out (⟨HX3.out.lk.sn, HX3.out.lk.ok, HX3.out.lk.ln, HX3.out.lk.side, HX3.out.lk.gen, HX3.out.lk.last, HX3.out.lk.lt⟩) (fun _ e => e)
     go_wp2_with fail
     exact bodyPost_ret (results_cell2 rfl _ rfl HRR.out.a.range Tryz.underlying31 rfl refI rfl HRR.out.b.range Tryz.underlying37 rfl rlI) rfl ⟨m2, v, by rw [HF.out.1, HF.out.2.1, HF2.out]; rfl, by rw [HF.out.2.1]; exact hfin.1, by rw [HF2.out]; exact hfin.2.1, hfin.2.2.1, by rw [HF.out.2.1]; exact hfin.2.2.2.1, hfin.2.2.2.2⟩
end Go.Proofs.YtillkpjflcgkeaaGreat
