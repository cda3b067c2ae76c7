import Derived.Test.YtillkpjflcgkeaaGreatMT28
import Derived.Test.YtillkpjflcgkeaaGreatMT29
set_option linter.unusedSimpArgs false
set_option maxRecDepth 100000
namespace Go.Proofs.YtillkpjflcgkeaaGreat
open Go.RowKit
attribute [local irreducible] wpQuiet wpAnyH
def rrewW (L : RLog) (qs : List Ent2) (g : Nat) (fr : RefD × Int) (wd : RefD) (wa : Int) : RefD × RLog × Int :=
 if fr.2 = 0 then (if wa = 0 then (wd, { L with side := 1 - L.side, gen := g, es := qs }, 0) else (wd, rafter L wa, wa)) else (fr.1, rafter L fr.2, fr.2)
def rrewS (r : RefD) (L : RLog) (qs : List Ent2) (g : Nat) (f : Int) : RefD × RLog × Int :=
 rrewW L qs g (rfillD r f (r.sec.length / 2 : Nat) g qs) (rwsD (rfillD r f (r.sec.length / 2 : Nat) g qs).1 f (rec g toll)) (rwsA (rfillD r f (r.sec.length / 2 : Nat) g qs).1 f (rec g toll))
def rrewR (r : RefD) (L : RLog) (qs : List Ent2) : RefD × RLog × Int :=
 if L.has then (if L.brk then (r, L, 11) else if max L.last L.gen = 4294967295 then (r, L, 13) else rrewS r L qs (max L.last L.gen + 1) (((r.sec.length / 2 : Nat) : Int) * (1 - (L.side : Int)))) else (r, L, 12)
theorem half_side' {n s : Nat} (hn : n ≤ 2048) (hs : s < 2) : 0 ≤ (n : Int) * (1 - (s : Int)) ∧ (n : Int) * (1 - (s : Int)) ≤ 2048 := by
 have : s = 0 ∨ s = 1 := by omega
 rcases this with rfl | rfl
 ·simp; omega
 ·simp
theorem rws_code (r : RefD) (a : Int) (s : List Int) : 0 ≤ rwsA r a s ∧ rwsA r a s ≤ 15 := by
 have hw : ∀ a, 0 ≤ rwriteA r a ∧ rwriteA r a ≤ 15 := fun a => by unfold rwriteA; repeat' split; all_goals omega
 have hs : ∀ r : RefD, 0 ≤ rsyncA r ∧ rsyncA r ≤ 15 := fun r => by unfold rsyncA; repeat' split; all_goals omega
 unfold rwsA
 have h1 := hw a
 have h2 := hs (rwriteD r a s)
 split <;> omega
theorem rfillW_code : ∀ (L : List (List Int)) (r : RefD) (a : Int), 0 ≤ (rfillW r a L).2 ∧ (rfillW r a L).2 ≤ 15
 | [], r, a => by
  show 0 ≤ rsyncA r ∧ rsyncA r ≤ 15
  unfold rsyncA
  repeat' split
  all_goals omega
 | s :: L, r, a => by
  unfold rfillW
  split
  ·exact rfillW_code L _ _
  ·show 0 ≤ rwriteA r a ∧ rwriteA r a ≤ 15
   unfold rwriteA
   repeat' split
   all_goals omega
theorem rfill_code (r : RefD) (f z : Int) (g : Nat) (l : List Ent2) : 0 ≤ (rfillD r f z g l).2 ∧ (rfillD r f z g l).2 ≤ 15 := by
 unfold rfillD
 split
 ·exact ⟨by show (0 : Int) ≤ 13; omega, by show (13 : Int) ≤ 15; omega⟩
 ·split
  ·exact rfillW_code _ _ _
  ·exact ⟨by show (0 : Int) ≤ 15; omega, by show (15 : Int) ≤ 15; omega⟩
theorem rwriteD_len (r : RefD) (a : Int) (s : List Int) : (rwriteD r a s).sec.length = r.sec.length := by
 unfold rwriteD
 split
 ·rfl
 split
 ·show (crashL _ _ _).length = _
  rw [crashL_len]
  unfold radd
  split <;> rfl
 split
 ·rfl
 ·unfold radd
  split <;> rfl
theorem rsyncD_len (r : RefD) : (rsyncD r).sec.length = r.sec.length := by
 unfold rsyncD
 split
 ·rfl
 split
 ·show (crashL _ _ _).length = _
  rw [crashL_len]
  rfl
 split
 ·rfl
 ·show (syncN _ _ _).length = _
  rw [syncN_len]
  rfl
theorem rwsD_len (r : RefD) (a : Int) (s : List Int) : (rwsD r a s).sec.length = r.sec.length := by
 unfold rwsD
 split
 ·rw [rsyncD_len, rwriteD_len]
 ·exact rwriteD_len r a s
theorem rfillW_len : ∀ (L : List (List Int)) (r : RefD) (a : Int), (rfillW r a L).1.sec.length = r.sec.length
 | [], r, a => rsyncD_len r
 | s :: L, r, a => by
  unfold rfillW
  split
  ·rw [rfillW_len L, rwriteD_len]
  ·exact rwriteD_len r a s
theorem rfillD_len (r : RefD) (f z : Int) (g : Nat) (l : List Ent2) : (rfillD r f z g l).1.sec.length = r.sec.length := by
 unfold rfillD
 split
 ·rfl
 ·split
  ·exact rfillW_len _ _ _
  ·rfl
set_option maxHeartbeats 16000000 in
theorem ref19_rewrite (m : RM) (r : RefD) (v : Value) (L : RLog) (qs : List Ent2) (Aq : Option Addr) (cq : Nat) (w : World) (h : RK w m r) (hL : RLK w v L) (hq : Sn w 33 (.slice Aq qs.length cq) qs.length (qs.flatMap entP)) (hok : ∀ q ∈ qs, EntOk q) (hln : qs.length ≤ 10000) (hst : r.steps + 50000 ≤ 1000000000) (ho : r.opn.length + 2 * qs.length + 2 ≤ 50000) (ho2 : r.opn.length + 20000 ≤ 50000) :
  Calls Tryz.prog 24 #[.agg (refC m r), .agg (rlC v L), .slice Aq qs.length cq] w fun e w' => ∃ m' v', e = .returned (.tuple #[.agg (refC m' (rrewR r L qs).1), .agg (rlC v' (rrewR r L qs).2.1), .int .i64 (rrewR r L qs).2.2]) ∧ RK w' m' (rrewR r L qs).1 ∧ RLK w' v' (rrewR r L qs).2.1 ∧ Below w.heap.size w w' ∧ (∀ b ∈ rowsOf m' (rrewR r L qs).1, b ∈ rowsOf m r ∨ w.heap.size ≤ b) ∧ ∀ b, v'.ownBlock = some b → v.ownBlock = some b ∨ w.heap.size ≤ b := by
 have hlenD : ∀ m r, (Tryz.prog.info? 31).map (·.size) = some (refC m r).toList.length := fun _ _ => refI
 have hlenL : ∀ v L, (Tryz.prog.info? 37).map (·.size) = some (rlC v L).toList.length := fun _ _ => rlI
 obtain ⟨As, cs, es⟩ := h.sec.slc
 obtain ⟨w1, hw1⟩ : ∃ w1, w1 = (((w.alloc (.cells (refC m r) 31)).alloc (.cells (rlC v L) 37)).alloc (.cells refZ 31)).alloc (.cells rlZ 37) := ⟨_, rfl⟩
 have HX1 : Hid (X19 w w1 m r v m r v L w.heap.size (w.heap.size + 1) (w.heap.size + 2) (w.heap.size + 3)) := jz (by
  have hb : Below w.heap.size w w1 := by rw [hw1]; exact bstep (bstep (bstep (bel1 _ _) (bel1 _ _)) (bel1 _ _)) (bel1 _ _)
  refine ⟨by rw [hw1]; exact (((Blk.new _ _ _).alloc _).alloc _).alloc _, by rw [hw1]; exact ((Blk.newAt _ _ _ _ (by simp)).alloc _).alloc _, by rw [hw1]; exact (Blk.newAt _ _ _ _ (by simp)).alloc _, by rw [hw1]; exact Blk.newAt _ _ _ _ (by simp), h.keep hb, hL.keep hb, hb, fun b hm => .inl hm, fun b e => .inl e, fun g hg => ⟨fun hm => by have := h.bl g hm; omega, fun e => by have := hL.lt g e; omega⟩, ⟨⟨by omega, by omega, by omega, by omega⟩, ⟨by omega, by omega, by omega⟩, ⟨by omega, by omega, by omega⟩⟩⟩)
 have HQ := Lib.hid hq
 have HOK := Lib.hid hok
 have hsl : r.sec.length ≤ 4096 := h.ok.few
 have hcell : ∀ W gd, Blk W gd 31 (refC m r) → W.cell? ⟨gd, 0, none⟩ = some (.slice As r.sec.length cs) := fun W gd hB => by
  have h0 : W.cell? ⟨gd, 0, none⟩ = some m.sv := (hB.cell 0).trans rfl
  rw [h0, es]
 obtain ⟨n, hn⟩ : ∃ n : Nat, n = r.sec.length / 2 := ⟨_, rfl⟩
 have HQN : Hid ((r.sec.length : Int) / 2 = (n : Int)) := jz (by omega)
 have HNN := Lib.hid hn
 have hn2 : n ≤ 2048 := by omega
 have hn2i : (n : Int) ≤ 2048 := by omega
 have c0 := hcell w1 w.heap.size HX1.out.d
 have l0 : w1.cell? ⟨w.heap.size + 1, 0, none⟩ = some (.bool L.has) := (HX1.out.l.cell 0).trans rfl
 have l5 : w1.cell? ⟨w.heap.size + 1, 5, none⟩ = some (.bool L.brk) := (HX1.out.l.cell 5).trans rfl
 obtain ⟨N, hN⟩ : ∃ N, N = w.heap.size := ⟨_, rfl⟩
 have HN := Lib.hid hN
 clear h hL hq hok hn es hcell
 go_enter Tryz.func24, Tryz.ntmps24
 go_upto_region 1 with (first | (refine al 31 refZ rfl rfl zeroRef ?_) | (refine al 37 rlZ rfl rfl zeroRL ?_))
 rw [← hw1]
 clear hw1
 rw [← hN] at HX1 c0 l0 l5
 simp only [← hN]
 clear hN
 go_upto_region 2 with fail
 rw [HQN.out]
 cases hhas : L.has with
 | false =>
  rw [hhas] at l0
  have HF : Hid ((rrewR r L qs).2.2 = 12 ∧ (rrewR r L qs).1 = r ∧ (rrewR r L qs).2.1 = L) := jz (by unfold rrewR; rw [hhas]; exact ⟨rfl, rfl, rfl⟩)
  clear hhas
  go_upto_region 3 with fail
  go_cut [8] from 20 to 21 (fun x W => x = .int .i64 12 ∧ Hid (R2 w.heap.size w1 W (N + 2) (N + 3) 31 37 (refC m r) (rlC v (L))))
  case first =>
   obtain ⟨wS, hwS⟩ : ∃ wS, wS = w1.drew := ⟨_, rfl⟩
   have hbS : Below w1.heap.size w1 wS := by rw [hwS]; exact (Below.refl _ _).drew
   have HRS : Hid (R2 w.heap.size w1 wS (N + 2) (N + 3) 31 37 refZ rlZ) := jz ((R2.start HX1.out.a HX1.out.b HX1.out.p.n2.2.2 ⟨HX1.out.p.lo.2.2.1, HX1.out.p.lo.2.2.2⟩).keep hbS)
   have HDO : Hid (∀ xA xB W, R2 w.heap.size w1 W (N + 2) (N + 3) 31 37 xA xB → Blk W (N) 31 (refC m r) ∧ Blk W (N + 1) 37 (rlC v L)) := jz (fun xA xB W k => ⟨k.old HX1.out.d HX1.out.p.n1.2.1 HX1.out.p.n1.2.2, k.old HX1.out.l HX1.out.p.n2.1 HX1.out.p.n2.2.1⟩)
   have HOD : Hid (∀ u ∈ (refC m r).toList, u.oneCell' = true) := jz (fun u hu => by have := refC_one HX1.out.k; rw [Array.all_eq_true_iff_forall_mem] at this; exact this u (by simpa using hu))
   have HOL : Hid (∀ u ∈ (rlC v (L)).toList, u.oneCell' = true) := jz (fun u hu => by have := rlC_one (L := L) (HX1.out.lk); rw [Array.all_eq_true_iff_forall_mem] at this; exact this u (by simpa using hu))
   clear hbS
   refine held_start 5 (fun W => Blk W (N) 31 (refC m r) ∧ Blk W (N + 1) 37 (rlC v L)) (by kernel_rfl) (by kernel_rfl) (by rw [← hwS]; exact HDO.out _ _ _ HRS.out) (fun hHeld => ?_)
   rw [← hwS] at hHeld ⊢
   clear hwS
   refine jL 0 31 (.tmp 3) (some 20) (cs := (refC m r).toList) (fun _ hX => hX.1.range) Tryz.underlying31 rfl (hlenD _ _) hHeld ?_
   simp only [j1, j2, j3, j4, j5]
   refine jL 1 37 (.tmp 4) (some 21) (cs := (rlC v L).toList) (fun _ hX => hX.2.range) Tryz.underlying37 rfl (hlenL _ _) hHeld ?_
   simp only [j1, j2, j3, j4, j5]
   refine jW [2] ?_
   refine jR 2 31 (.tmp 6) (.tmp 20) none (cs := (refC m r).toList) (there_all HRS.out.a rfl) (hlenD _ _) (HOD.out) (HDO.out _ _ _ (jz (HRS.out.stA ((refC m r).toList) rfl)).out) ?_ jN
   simp only [j1, j2, j3, j4, j5]
   obtain ⟨wk1, hwk1⟩ : ∃ wx, wx = (wS.setCells (N + 2) 0 ((refC m r).toList)) := ⟨_, rfl⟩
   have HR1 := jz (HRS.out.stA ((refC m r).toList) rfl)
   rw [← hwk1] at HR1 ⊢
   clear hwk1
   refine jW [3] ?_
   refine jR 3 37 (.tmp 7) (.tmp 21) none (cs := (rlC v (L)).toList) (there_all HR1.out.b rfl) (hlenL _ _) (HOL.out) (HDO.out _ _ _ (jz (HR1.out.stB ((rlC v (L)).toList) rfl)).out) ?_ jN
   simp only [j1, j2, j3, j4, j5]
   obtain ⟨wk2, hwk2⟩ : ∃ wx, wx = (wk1.setCells (N + 3) 0 ((rlC v (L)).toList)) := ⟨_, rfl⟩
   have HR2 := jz (HR1.out.stB ((rlC v (L)).toList) rfl)
   rw [← hwk2] at HR2 ⊢
   clear hwk2
   refine jT 4 (.assign (.const (.int .i64 12))) (some 8) (.int .i64 12) (HDO.out _ _ _ HR2.out) ?_
   simp only [j1, j2, j3, j4, j5]
   refine wpAnyH_done (by kernel_rfl) ?_ _
   go_wp2_with fail
   go_meet
   exact ⟨rfl, HR2⟩
  case rest =>
   obtain ⟨rfl, HRR⟩ := hcut
   rename World => wz
   have hfin := HX1.out.ret HRR.out (HX1.out.lk) (fun _ e => e)
   go_wp2_with fail
   exact bodyPost_ret (results_cell2 rfl _ rfl HRR.out.a.range Tryz.underlying31 rfl refI rfl HRR.out.b.range Tryz.underlying37 rfl rlI) rfl ⟨m, v, by rw [HF.out.1, HF.out.2.1, HF.out.2.2]; rfl, by rw [HF.out.2.1]; exact hfin.1, by rw [HF.out.2.2]; exact hfin.2.1, hfin.2.2.1, by rw [HF.out.2.1]; exact hfin.2.2.2.1, hfin.2.2.2.2⟩
 | true =>
 rw [hhas] at l0
 cases hbrk : L.brk with
 | true =>
  rw [hbrk] at l5
  have HF : Hid ((rrewR r L qs).2.2 = 11 ∧ (rrewR r L qs).1 = r ∧ (rrewR r L qs).2.1 = L) := jz (by unfold rrewR; rw [hhas, hbrk]; exact ⟨rfl, rfl, rfl⟩)
  clear hhas hbrk
  go_upto_region 5 with fail
  go_cut [8] from 24 to 25 (fun x W => x = .int .i64 11 ∧ Hid (R2 w.heap.size w1 W (N + 2) (N + 3) 31 37 (refC m r) (rlC v (L))))
  case first =>
   obtain ⟨wS, hwS⟩ : ∃ wS, wS = w1.drew := ⟨_, rfl⟩
   have hbS : Below w1.heap.size w1 wS := by rw [hwS]; exact (Below.refl _ _).drew
   have HRS : Hid (R2 w.heap.size w1 wS (N + 2) (N + 3) 31 37 refZ rlZ) := jz ((R2.start HX1.out.a HX1.out.b HX1.out.p.n2.2.2 ⟨HX1.out.p.lo.2.2.1, HX1.out.p.lo.2.2.2⟩).keep hbS)
   have HDO : Hid (∀ xA xB W, R2 w.heap.size w1 W (N + 2) (N + 3) 31 37 xA xB → Blk W (N) 31 (refC m r) ∧ Blk W (N + 1) 37 (rlC v L)) := jz (fun xA xB W k => ⟨k.old HX1.out.d HX1.out.p.n1.2.1 HX1.out.p.n1.2.2, k.old HX1.out.l HX1.out.p.n2.1 HX1.out.p.n2.2.1⟩)
   have HOD : Hid (∀ u ∈ (refC m r).toList, u.oneCell' = true) := jz (fun u hu => by have := refC_one HX1.out.k; rw [Array.all_eq_true_iff_forall_mem] at this; exact this u (by simpa using hu))
   have HOL : Hid (∀ u ∈ (rlC v (L)).toList, u.oneCell' = true) := jz (fun u hu => by have := rlC_one (L := L) (HX1.out.lk); rw [Array.all_eq_true_iff_forall_mem] at this; exact this u (by simpa using hu))
   clear hbS
   refine held_start 5 (fun W => Blk W (N) 31 (refC m r) ∧ Blk W (N + 1) 37 (rlC v L)) (by kernel_rfl) (by kernel_rfl) (by rw [← hwS]; exact HDO.out _ _ _ HRS.out) (fun hHeld => ?_)
   rw [← hwS] at hHeld ⊢
   clear hwS
   refine jL 0 31 (.tmp 3) (some 24) (cs := (refC m r).toList) (fun _ hX => hX.1.range) Tryz.underlying31 rfl (hlenD _ _) hHeld ?_
   simp only [j1, j2, j3, j4, j5]
   refine jL 1 37 (.tmp 4) (some 25) (cs := (rlC v L).toList) (fun _ hX => hX.2.range) Tryz.underlying37 rfl (hlenL _ _) hHeld ?_
   simp only [j1, j2, j3, j4, j5]
   refine jW [2] ?_
   refine jR 2 31 (.tmp 6) (.tmp 24) none (cs := (refC m r).toList) (there_all HRS.out.a rfl) (hlenD _ _) (HOD.out) (HDO.out _ _ _ (jz (HRS.out.stA ((refC m r).toList) rfl)).out) ?_ jN
   simp only [j1, j2, j3, j4, j5]
   obtain ⟨wk1, hwk1⟩ : ∃ wx, wx = (wS.setCells (N + 2) 0 ((refC m r).toList)) := ⟨_, rfl⟩
   have HR1 := jz (HRS.out.stA ((refC m r).toList) rfl)
   rw [← hwk1] at HR1 ⊢
   clear hwk1
   refine jW [3] ?_
   refine jR 3 37 (.tmp 7) (.tmp 25) none (cs := (rlC v (L)).toList) (there_all HR1.out.b rfl) (hlenL _ _) (HOL.out) (HDO.out _ _ _ (jz (HR1.out.stB ((rlC v (L)).toList) rfl)).out) ?_ jN
   simp only [j1, j2, j3, j4, j5]
   obtain ⟨wk2, hwk2⟩ : ∃ wx, wx = (wk1.setCells (N + 3) 0 ((rlC v (L)).toList)) := ⟨_, rfl⟩
   have HR2 := jz (HR1.out.stB ((rlC v (L)).toList) rfl)
   rw [← hwk2] at HR2 ⊢
   clear hwk2
   refine jT 4 (.assign (.const (.int .i64 11))) (some 8) (.int .i64 11) (HDO.out _ _ _ HR2.out) ?_
   simp only [j1, j2, j3, j4, j5]
   refine wpAnyH_done (by kernel_rfl) ?_ _
   go_wp2_with fail
   go_meet
   exact ⟨rfl, HR2⟩
  case rest =>
   obtain ⟨rfl, HRR⟩ := hcut
   rename World => wz
   have hfin := HX1.out.ret HRR.out (HX1.out.lk) (fun _ e => e)
   go_wp2_with fail
   exact bodyPost_ret (results_cell2 rfl _ rfl HRR.out.a.range Tryz.underlying31 rfl refI rfl HRR.out.b.range Tryz.underlying37 rfl rlI) rfl ⟨m, v, by rw [HF.out.1, HF.out.2.1, HF.out.2.2]; rfl, by rw [HF.out.2.1]; exact hfin.1, by rw [HF.out.2.2]; exact hfin.2.1, hfin.2.2.1, by rw [HF.out.2.1]; exact hfin.2.2.2.1, hfin.2.2.2.2⟩
 | false =>
 rw [hbrk] at l5
 have hs2 := HX1.out.lk.side
 have hg4 := HX1.out.lk.gen
 have hl4 := HX1.out.lk.last
 have l1 : w1.cell? ⟨N + 1, 1, none⟩ = some (.int .i64 L.side) := (HX1.out.l.cell 1).trans rfl
 have l2 : w1.cell? ⟨N + 1, 2, none⟩ = some (.int .u32 L.gen) := (HX1.out.l.cell 2).trans rfl
 have l3 : w1.cell? ⟨N + 1, 3, none⟩ = some (.int .u32 L.last) := (HX1.out.l.cell 3).trans rfl
 obtain ⟨G, hG⟩ : ∃ G, G = max L.last L.gen := ⟨_, rfl⟩
 have HGI : Hid (max (L.last : Int) (L.gen : Int) = (G : Int)) := jz (by omega)
 have hG4 : G < 4294967296 := by omega
 have HGG := Lib.hid hG
 clear hG
 go_upto_region 7 with fail
 rw [HGI.out]
 rcases Nat.lt_or_ge G 4294967295 with hlt | hge
 ·have hGi : (G : Int) < 4294967295 := by omega
  obtain ⟨hm0, hm1⟩ := half_side' hn2 hs2
  obtain ⟨f, hf⟩ : ∃ f : Int, f = (n : Int) * (1 - (L.side : Int)) := ⟨_, rfl⟩
  have HFE := Lib.hid hf.symm
  have HRR : Hid (rrewR r L qs = rrewW L qs (G + 1) (rfillD r f n (G + 1) qs) (rwsD (rfillD r f n (G + 1) qs).1 f (rec (G + 1) toll)) (rwsA (rfillD r f n (G + 1) qs).1 f (rec (G + 1) toll))) := jz (by unfold rrewR rrewS; rw [hhas, hbrk, ← HNN.out, ← hf, ← HGG.out]; simp only [if_true, Bool.false_eq_true, if_false]; rw [if_neg (by omega)])
  have hf0 : 0 ≤ f := by omega
  have hf1 : f ≤ 2048 := by omega
  have hGe : ((G : Int) == 4294967295) = false := by rw [beq_eq_false_iff_ne]; omega
  have HLT := Lib.hid hlt
  have HBR := Lib.hid hbrk
  have HHA := Lib.hid hhas
  clear hf hlt hbrk hhas
  go_upto_region 10 with fail
  rw [HFE.out]
  have HP := jz (ref_fill m r f n (G + 1) qs Aq cq w1 HX1.out.k (HQ.out.below HX1.out.bel) HOK.out ⟨hf0, by omega⟩ ⟨by omega, by omega⟩ hln (by omega) ho2)
  obtain ⟨hc0, hc15⟩ := rfill_code r f n (G + 1) qs
  have hrb := rfill_b r f n (G + 1) qs
  obtain ⟨⟨r2, c⟩, hfr⟩ : ∃ x, x = rfillD r f n (G + 1) qs := ⟨_, rfl⟩
  rw [← hfr] at HP HRR hc0 hc15 hrb
  simp only at HP HRR hc0 hc15 hrb
  have hst2 : r2.steps ≤ r.steps + (2 * qs.length + 1 : Nat) := hrb.1
  have hop2 : r2.opn.length ≤ r.opn.length + (2 * qs.length + 1) := hrb.2.1
  have hr0 := HX1.out.d.range
  have hgn : ((G : Int) + 1) = ((G + 1 : Nat) : Int) := by omega
  rw [← hgn] at HP
  clear hfr l0 l5 c0 hm0 hm1 hrb hgn
  go_upto_region 11 with (first
   | (refine ld 31 _ rfl rfl rfl hr0 Tryz.underlying31 rfl (hlenD _ _) ?_)
   | (go_at_call 49; refine HP.out.mono ?_; rintro e w2 ⟨m2, rfl, hk2, hb2, hs2'⟩)
   | (refine stBlk (cells := refC m2 r2) 31 (.tmp 3) (.tmp 48) rfl rfl rfl rfl (HX1.out.d.keep hb2) refI rfl (refC_one hk2) ?_; intro w3 hB3 hb3 ho3 hs3))
  have HX3 := jz (HX1.out.disk hk2 hb2 hs2' hB3 hb3 ho3)
  clear hk2 hb2 hs2' hB3 hb3 ho3 hs3 HP hr0 l1 l2 l3
  rcases Bool.eq_false_or_eq_true (c == 0) with t0 | t0
  ·obtain rfl : c = 0 := by simpa using t0
   have HR2 : Hid (rrewR r L qs = if rwsA r2 f (rec (G + 1) toll) = 0 then (rwsD r2 f (rec (G + 1) toll), { L with side := 1 - L.side, gen := G + 1, es := qs }, 0) else (rwsD r2 f (rec (G + 1) toll), rafter L (rwsA r2 f (rec (G + 1) toll)), rwsA r2 f (rec (G + 1) toll))) := jz (by rw [HRR.out]; rfl)
   have HP := jz (ref_commit m2 r2 f (G + 1) w3 HX3.out.k ⟨by omega, by omega⟩ (by omega) (by omega))
   obtain ⟨hd0, hd15⟩ := rws_code r2 f (rec (G + 1) toll)
   obtain ⟨c2, hc2⟩ : ∃ c2, c2 = rwsA r2 f (rec (G + 1) toll) := ⟨_, rfl⟩
   obtain ⟨r4, hr4⟩ : ∃ r4, r4 = rwsD r2 f (rec (G + 1) toll) := ⟨_, rfl⟩
   rw [← hc2, ← hr4] at HP HR2
   rw [← hc2] at hd0 hd15
   have hr3 := HX3.out.d.range
   have hgn : ((G : Int) + 1) = ((G + 1 : Nat) : Int) := by omega
   rw [← hgn] at HP
   clear hc2 hr4 t0 hgn HRR
   go_upto_region 14 with (first
    | (refine ld 31 _ rfl rfl rfl hr3 Tryz.underlying31 rfl (hlenD _ _) ?_)
    | (go_at_call 50; refine HP.out.mono ?_; rintro e w4 ⟨m4, rfl, hk4, hb4, hs4'⟩)
    | (refine stBlk (cells := refC m4 r4) 31 (.tmp 3) (.tmp 63) rfl rfl rfl rfl (HX3.out.d.keep hb4) refI rfl (refC_one hk4) ?_; intro w5 hB5 hb5 ho5 hs5))
   have HX5 := jz (HX3.out.disk hk4 hb4 hs4' hB5 hb5 ho5)
   clear hk4 hb4 hs4' hB5 hb5 ho5 hs5 HP hr3
   rcases Bool.eq_false_or_eq_true (c2 == 0) with t2 | t2
   ·obtain rfl : c2 = 0 := by simpa using t2
    obtain ⟨s1, hs1⟩ : ∃ s1, s1 = 1 - L.side := ⟨_, rfl⟩
    have hs1i : (1 : Int) - (L.side : Int) = (s1 : Int) := by omega
    have HS1 := Lib.hid hs1i
    have HF : Hid ((rrewR r L qs).2.2 = 0 ∧ (rrewR r L qs).1 = r4 ∧ (rrewR r L qs).2.1 = { L with side := s1, gen := G + 1, es := qs }) := jz (by rw [HR2.out, if_pos rfl, hs1]; exact ⟨rfl, rfl, rfl⟩)
    have HS12 : Hid (s1 < 2) := jz (by omega)
    have l1 : w5.cell? ⟨N + 1, 1, none⟩ = some (.int .i64 L.side) := (HX5.out.l.cell 1).trans rfl
    have f1 := HX5.out.l.frozen 1
    have hgl := HX5.out.l.lt
    clear t2 HR2 hs1 hs1i
    go_upto_region 17 with fail
    rw [HS1.out]
    obtain ⟨w6, hw6⟩ : ∃ w6, w6 = w5.setCell ⟨N + 1, 1, none⟩ (.int .i64 s1) := ⟨_, rfl⟩
    have HX6 : Hid (X19 w w6 m r v m4 r4 v { L with side := s1 } N (N + 1) (N + 2) (N + 3)) := jz (by rw [hw6]; exact HX5.out.cell 1 _ ⟨HX5.out.lk.sn, HX5.out.lk.ok, HX5.out.lk.ln, HS12.out, HX5.out.lk.gen, HX5.out.lk.last, HX5.out.lk.lt⟩ (fun _ e => .inl e) rfl)
    rw [← hw6]
    have f2 := HX6.out.l.frozen 2
    have c2 : w6.cell? ⟨N + 1, 2, none⟩ = some (.int .u32 L.gen) := (HX6.out.l.cell 2).trans rfl
    have hgl6 := HX6.out.l.lt
    clear hw6 l1 f1 hgl
    go_upto_region 18 with fail
    obtain ⟨w7, hw7⟩ : ∃ w7, w7 = w6.setCell ⟨N + 1, 2, none⟩ (.int .u32 ((G : Int) + 1)) := ⟨_, rfl⟩
    have HX7 : Hid (X19 w w7 m r v m4 r4 v { L with side := s1, gen := G + 1 } N (N + 1) (N + 2) (N + 3)) := jz (by rw [hw7]; exact HX6.out.cell 2 _ ⟨HX6.out.lk.sn, HX6.out.lk.ok, HX6.out.lk.ln, HX6.out.lk.side, by show G + 1 < 4294967296; omega, HX6.out.lk.last, HX6.out.lk.lt⟩ (fun _ e => .inl e) rfl)
    rw [← hw7]
    clear hw7 f2 c2 hgl6
    have hbl : Below w7.heap.size w7 (w7.alloc (.cells #[] 43)) := bel1 _ _
    have HBL := Lib.hid hbl
    have HOW : Hid ((w7.alloc (.cells #[] 43)).ownsRow w7.heap.size 43 33 (.slice (some ⟨w7.heap.size, 0, none⟩) 0 0) 0 []) := jz (own_new w7 #[] 43 33 0 w7.heap.size w7.heap.size (Nat.le_refl _) rfl (by decide) rfl)
    have HMW := jz (HQ.out.below (HX7.out.keep hbl).bel)
    have HLE : Hid (w7.heap.size ≤ (w7.alloc (.cells #[] 43)).heap.size) := Lib.hid hbl.size
    have HON : Hid (∀ u ∈ qs.flatMap entP, u.oneCell' = true) := jz (fun u hu => by obtain ⟨q, _, hu⟩ := List.mem_flatMap.1 hu; exact entP_one q u hu)
    clear hbl
    go_cut [] from 79 to 82 (fun W => ∃ v9, Hid (X19 w W m r v m4 r4 v9 { L with side := s1, gen := G + 1, es := qs } N (N + 1) (N + 2) (N + 3)))
    case first =>
     go_wp2_with (at_builtin; refine app tEnt (.tmp 79) (.tmp 80) rfl rfl (by rfl) HOW.out (by rfl) HMW.out HON.out (by unfold maxLen; omega) (by omega) HLE.out ?_; intro v8 w8 hown hgrow hblk; rw [List.nil_append, Nat.zero_add] at hown; obtain ⟨a8, c8, hv8, _, _⟩ := own_snD hown; subst hv8; have HB8 : Hid (Below w7.heap.size w7 w8) := jz (HBL.out.grown hgrow HBL.out.size (fun b e => (HOW.out.lt b e).1)); have HX8 := jz (HX7.out.keep HB8.out); have HO8 := Lib.hid hown; clear hown hgrow hblk; have f4 := HX8.out.l.frozen 4; have c4 := (HX8.out.l.cell 4).trans (rlC_at4 _ _); have hgl8 := HX8.out.l.lt)
     go_meet
     exact ⟨.slice a8 qs.length c8, jz (HX8.out.cell 4 (.slice a8 qs.length c8) ⟨Sn.own HO8.out, HOK.out, hln, HX8.out.lk.side, HX8.out.lk.gen, HX8.out.lk.last, fun b e => (HO8.out.lt b e).2⟩ (fun b e => .inr (HX7.out.far (HO8.out.lt b e).1)) rfl)⟩
    case rest =>
     obtain ⟨v9, HX9⟩ := hcut
     rename World => w9
     go_upto_region 19 with fail
     go_cut [8] from 83 to 84 (fun x W => x = .int .i64 0 ∧ Hid (R2 w.heap.size w9 W (N + 2) (N + 3) 31 37 (refC m4 r4) (rlC v9 ({ L with side := s1, gen := G + 1, es := qs }))))
     case first =>
      obtain ⟨wS, hwS⟩ : ∃ wS, wS = w9.drew := ⟨_, rfl⟩
      have hbS : Below w9.heap.size w9 wS := by rw [hwS]; exact (Below.refl _ _).drew
      have HRS : Hid (R2 w.heap.size w9 wS (N + 2) (N + 3) 31 37 refZ rlZ) := jz ((R2.start HX9.out.a HX9.out.b HX9.out.p.n2.2.2 ⟨HX9.out.p.lo.2.2.1, HX9.out.p.lo.2.2.2⟩).keep hbS)
      have HDO : Hid (∀ xA xB W, R2 w.heap.size w9 W (N + 2) (N + 3) 31 37 xA xB → Blk W (N) 31 (refC m4 r4) ∧ Blk W (N + 1) 37 (rlC v9 { L with side := s1, gen := G + 1, es := qs })) := jz (fun xA xB W k => ⟨k.old HX9.out.d HX9.out.p.n1.2.1 HX9.out.p.n1.2.2, k.old HX9.out.l HX9.out.p.n2.1 HX9.out.p.n2.2.1⟩)
      have HOD : Hid (∀ u ∈ (refC m4 r4).toList, u.oneCell' = true) := jz (fun u hu => by have := refC_one HX9.out.k; rw [Array.all_eq_true_iff_forall_mem] at this; exact this u (by simpa using hu))
      have HOL : Hid (∀ u ∈ (rlC v9 ({ L with side := s1, gen := G + 1, es := qs })).toList, u.oneCell' = true) := jz (fun u hu => by have := rlC_one (L := { L with side := s1, gen := G + 1, es := qs }) (HX9.out.lk); rw [Array.all_eq_true_iff_forall_mem] at this; exact this u (by simpa using hu))
      clear hbS
      refine held_start 5 (fun W => Blk W (N) 31 (refC m4 r4) ∧ Blk W (N + 1) 37 (rlC v9 { L with side := s1, gen := G + 1, es := qs })) (by kernel_rfl) (by kernel_rfl) (by rw [← hwS]; exact HDO.out _ _ _ HRS.out) (fun hHeld => ?_)
      rw [← hwS] at hHeld ⊢
      clear hwS
      refine jL 0 31 (.tmp 3) (some 83) (cs := (refC m4 r4).toList) (fun _ hX => hX.1.range) Tryz.underlying31 rfl (hlenD _ _) hHeld ?_
      simp only [j1, j2, j3, j4, j5]
      refine jL 1 37 (.tmp 4) (some 84) (cs := (rlC v9 { L with side := s1, gen := G + 1, es := qs }).toList) (fun _ hX => hX.2.range) Tryz.underlying37 rfl (hlenL _ _) hHeld ?_
      simp only [j1, j2, j3, j4, j5]
      refine jW [2] ?_
      refine jR 2 31 (.tmp 6) (.tmp 83) none (cs := (refC m4 r4).toList) (there_all HRS.out.a rfl) (hlenD _ _) (HOD.out) (HDO.out _ _ _ (jz (HRS.out.stA ((refC m4 r4).toList) rfl)).out) ?_ jN
      simp only [j1, j2, j3, j4, j5]
      obtain ⟨wk1, hwk1⟩ : ∃ wx, wx = (wS.setCells (N + 2) 0 ((refC m4 r4).toList)) := ⟨_, rfl⟩
      have HR1 := jz (HRS.out.stA ((refC m4 r4).toList) rfl)
      rw [← hwk1] at HR1 ⊢
      clear hwk1
      refine jW [3] ?_
      refine jR 3 37 (.tmp 7) (.tmp 84) none (cs := (rlC v9 ({ L with side := s1, gen := G + 1, es := qs })).toList) (there_all HR1.out.b rfl) (hlenL _ _) (HOL.out) (HDO.out _ _ _ (jz (HR1.out.stB ((rlC v9 ({ L with side := s1, gen := G + 1, es := qs })).toList) rfl)).out) ?_ jN
      simp only [j1, j2, j3, j4, j5]
      obtain ⟨wk2, hwk2⟩ : ∃ wx, wx = (wk1.setCells (N + 3) 0 ((rlC v9 ({ L with side := s1, gen := G + 1, es := qs })).toList)) := ⟨_, rfl⟩
      have HR2 := jz (HR1.out.stB ((rlC v9 ({ L with side := s1, gen := G + 1, es := qs })).toList) rfl)
      rw [← hwk2] at HR2 ⊢
      clear hwk2
      refine jT 4 (.assign (.const (.int .i64 0))) (some 8) (.int .i64 0) (HDO.out _ _ _ HR2.out) ?_
      simp only [j1, j2, j3, j4, j5]
      refine wpAnyH_done (by kernel_rfl) ?_ _
      go_wp2_with fail
      go_meet
      exact ⟨rfl, HR2⟩
     case rest =>
      obtain ⟨rfl, HRR⟩ := hcut
      rename World => wz
      have hfin := HX9.out.ret HRR.out (HX9.out.lk) (fun _ e => e)
      go_wp2_with fail
      exact bodyPost_ret (results_cell2 rfl _ rfl HRR.out.a.range Tryz.underlying31 rfl refI rfl HRR.out.b.range Tryz.underlying37 rfl rlI) rfl ⟨m4, v9, by rw [HF.out.1, HF.out.2.1, HF.out.2.2]; rfl, by rw [HF.out.2.1]; exact hfin.1, by rw [HF.out.2.2]; exact hfin.2.1, hfin.2.2.1, by rw [HF.out.2.1]; exact hfin.2.2.2.1, hfin.2.2.2.2⟩
   ·have hcn : ¬ c2 = 0 := by simpa using t2
    have HF : Hid ((rrewR r L qs).2.2 = c2 ∧ (rrewR r L qs).1 = r4 ∧ (rrewR r L qs).2.1 = rafter L c2) := jz (by rw [HR2.out, if_neg hcn]; exact ⟨rfl, rfl, rfl⟩)
    have hne0 : (c2 != 0) = true := by simp [hcn]
    clear hcn t2 HR2
    go_upto_region 15 with fail
    go_cut [8] from 67 to 71 (fun x W => x = .int .i64 c2 ∧ Hid (R2 w.heap.size w5 W (N + 2) (N + 3) 31 37 (refC m4 r4) (rlC v (rafter L c2))))
    case first =>
     obtain ⟨wS, hwS⟩ : ∃ wS, wS = w5.drew := ⟨_, rfl⟩
     have hbS : Below w5.heap.size w5 wS := by rw [hwS]; exact (Below.refl _ _).drew
     have HRS : Hid (R2 w.heap.size w5 wS (N + 2) (N + 3) 31 37 refZ rlZ) := jz ((R2.start HX5.out.a HX5.out.b HX5.out.p.n2.2.2 ⟨HX5.out.p.lo.2.2.1, HX5.out.p.lo.2.2.2⟩).keep hbS)
     have HDO : Hid (∀ xA xB W, R2 w.heap.size w5 W (N + 2) (N + 3) 31 37 xA xB → Blk W (N) 31 (refC m4 r4) ∧ Blk W (N + 1) 37 (rlC v L)) := jz (fun xA xB W k => ⟨k.old HX5.out.d HX5.out.p.n1.2.1 HX5.out.p.n1.2.2, k.old HX5.out.l HX5.out.p.n2.1 HX5.out.p.n2.2.1⟩)
     have HOD : Hid (∀ u ∈ (refC m4 r4).toList, u.oneCell' = true) := jz (fun u hu => by have := refC_one HX5.out.k; rw [Array.all_eq_true_iff_forall_mem] at this; exact this u (by simpa using hu))
     have HOL : Hid (∀ u ∈ (rlC v (rafter L c2)).toList, u.oneCell' = true) := jz (fun u hu => by have := rlC_one (L := rafter L c2) (⟨HX5.out.lk.sn, HX5.out.lk.ok, HX5.out.lk.ln, HX5.out.lk.side, HX5.out.lk.gen, HX5.out.lk.last, HX5.out.lk.lt⟩); rw [Array.all_eq_true_iff_forall_mem] at this; exact this u (by simpa using hu))
     have HXS := jz (HX5.out.keep hbS)
     clear hbS
     refine held_start 8 (fun W => Blk W (N) 31 (refC m4 r4) ∧ Blk W (N + 1) 37 (rlC v L)) (by kernel_rfl) (by kernel_rfl) (by rw [← hwS]; exact HDO.out _ _ _ HRS.out) (fun hHeld => ?_)
     rw [← hwS] at hHeld ⊢
     clear hwS
     refine jL 0 31 (.tmp 3) (some 67) (cs := (refC m4 r4).toList) (fun _ hX => hX.1.range) Tryz.underlying31 rfl (hlenD _ _) hHeld ?_
     simp only [j1, j2, j3, j4, j5]
     refine jL 1 37 (.tmp 4) (some 68) (cs := (rlC v L).toList) (fun _ hX => hX.2.range) Tryz.underlying37 rfl (hlenL _ _) hHeld ?_
     simp only [j1, j2, j3, j4, j5]
     refine jM 2 (.tmp 12) (some 69) (.int .i64 c2) hHeld ?_
     simp only [j1, j2, j3, j4, j5]
     refine jM 4 (.tmp 12) (some 71) (.int .i64 c2) hHeld ?_
     simp only [j1, j2, j3, j4, j5]
     refine jW [3] ?_
     refine jC 3 (.call { callee := .value (.func 48), args := #[.tmp 68, .tmp 69], argTypes := #[37, 3] }) (some 70) 48 (#[.agg (rlC v L), .int .i64 c2]) ?_ jN
     refine (ref19_after v L c2 wS (HRS.out.rlk HX5.out.lk (HX5.out.nd _ (.inr (.inr (.inl rfl)))).2 (HX5.out.nd _ (.inr (.inr (.inr rfl)))).2)).mono ?_
     rintro e wk1 ⟨rfl, hk1⟩
     have HR1 := jz (HRS.out.keep hk1)
     clear hk1
     refine ⟨_, rfl, HDO.out _ _ _ HR1.out, fun _ => ?_⟩
     simp only [j1, j2, j3, j4, j5]
     refine jW [5] ?_
     refine jR 5 31 (.tmp 6) (.tmp 67) none (cs := (refC m4 r4).toList) (there_all HR1.out.a rfl) (hlenD _ _) (HOD.out) (HDO.out _ _ _ (jz (HR1.out.stA ((refC m4 r4).toList) rfl)).out) ?_ jN
     simp only [j1, j2, j3, j4, j5]
     obtain ⟨wk2, hwk2⟩ : ∃ wx, wx = (wk1.setCells (N + 2) 0 ((refC m4 r4).toList)) := ⟨_, rfl⟩
     have HR2 := jz (HR1.out.stA ((refC m4 r4).toList) rfl)
     rw [← hwk2] at HR2 ⊢
     clear hwk2
     refine jW [6] ?_
     refine jR 6 37 (.tmp 7) (.tmp 70) none (cs := (rlC v (rafter L c2)).toList) (there_all HR2.out.b rfl) (hlenL _ _) (HOL.out) (HDO.out _ _ _ (jz (HR2.out.stB ((rlC v (rafter L c2)).toList) rfl)).out) ?_ jN
     simp only [j1, j2, j3, j4, j5]
     obtain ⟨wk3, hwk3⟩ : ∃ wx, wx = (wk2.setCells (N + 3) 0 ((rlC v (rafter L c2)).toList)) := ⟨_, rfl⟩
     have HR3 := jz (HR2.out.stB ((rlC v (rafter L c2)).toList) rfl)
     rw [← hwk3] at HR3 ⊢
     clear hwk3
     refine jT 7 (.assign (.tmp 71)) (some 8) (.int .i64 c2) (HDO.out _ _ _ HR3.out) ?_
     simp only [j1, j2, j3, j4, j5]
     refine wpAnyH_done (by kernel_rfl) ?_ _
     go_wp2_with fail
     go_meet
     exact ⟨rfl, HR3⟩
    case rest =>
     obtain ⟨rfl, HRR⟩ := hcut
     rename World => wz
     have hfin := HX5.out.ret HRR.out (⟨HX5.out.lk.sn, HX5.out.lk.ok, HX5.out.lk.ln, HX5.out.lk.side, HX5.out.lk.gen, HX5.out.lk.last, HX5.out.lk.lt⟩) (fun _ e => e)
     go_wp2_with fail
     exact bodyPost_ret (results_cell2 rfl _ rfl HRR.out.a.range Tryz.underlying31 rfl refI rfl HRR.out.b.range Tryz.underlying37 rfl rlI) rfl ⟨m4, v, by rw [HF.out.1, HF.out.2.1, HF.out.2.2]; rfl, by rw [HF.out.2.1]; exact hfin.1, by rw [HF.out.2.2]; exact hfin.2.1, hfin.2.2.1, by rw [HF.out.2.1]; exact hfin.2.2.2.1, hfin.2.2.2.2⟩
  ·have hcn : ¬ c = 0 := by simpa using t0
   have HF : Hid ((rrewR r L qs).2.2 = c ∧ (rrewR r L qs).1 = r2 ∧ (rrewR r L qs).2.1 = rafter L c) := jz (by rw [HRR.out]; unfold rrewW; simp only [if_neg hcn]; refine ⟨?_, ?_, ?_⟩ <;> first | rfl | trivial)
   have hne0 : (c != 0) = true := by simp [hcn]
   clear hcn t0 HRR
   go_upto_region 12 with fail
   go_cut [8] from 52 to 56 (fun x W => x = .int .i64 c ∧ Hid (R2 w.heap.size w3 W (N + 2) (N + 3) 31 37 (refC m2 r2) (rlC v (rafter L c))))
   case first =>
    obtain ⟨wS, hwS⟩ : ∃ wS, wS = w3.drew := ⟨_, rfl⟩
    have hbS : Below w3.heap.size w3 wS := by rw [hwS]; exact (Below.refl _ _).drew
    have HRS : Hid (R2 w.heap.size w3 wS (N + 2) (N + 3) 31 37 refZ rlZ) := jz ((R2.start HX3.out.a HX3.out.b HX3.out.p.n2.2.2 ⟨HX3.out.p.lo.2.2.1, HX3.out.p.lo.2.2.2⟩).keep hbS)
    have HDO : Hid (∀ xA xB W, R2 w.heap.size w3 W (N + 2) (N + 3) 31 37 xA xB → Blk W (N) 31 (refC m2 r2) ∧ Blk W (N + 1) 37 (rlC v L)) := jz (fun xA xB W k => ⟨k.old HX3.out.d HX3.out.p.n1.2.1 HX3.out.p.n1.2.2, k.old HX3.out.l HX3.out.p.n2.1 HX3.out.p.n2.2.1⟩)
    have HOD : Hid (∀ u ∈ (refC m2 r2).toList, u.oneCell' = true) := jz (fun u hu => by have := refC_one HX3.out.k; rw [Array.all_eq_true_iff_forall_mem] at this; exact this u (by simpa using hu))
    have HOL : Hid (∀ u ∈ (rlC v (rafter L c)).toList, u.oneCell' = true) := jz (fun u hu => by have := rlC_one (L := rafter L c) (⟨HX3.out.lk.sn, HX3.out.lk.ok, HX3.out.lk.ln, HX3.out.lk.side, HX3.out.lk.gen, HX3.out.lk.last, HX3.out.lk.lt⟩); rw [Array.all_eq_true_iff_forall_mem] at this; exact this u (by simpa using hu))
    have HXS := jz (HX3.out.keep hbS)
    clear hbS
    refine held_start 8 (fun W => Blk W (N) 31 (refC m2 r2) ∧ Blk W (N + 1) 37 (rlC v L)) (by kernel_rfl) (by kernel_rfl) (by rw [← hwS]; exact HDO.out _ _ _ HRS.out) (fun hHeld => ?_)
    rw [← hwS] at hHeld ⊢
    clear hwS
    refine jL 0 31 (.tmp 3) (some 52) (cs := (refC m2 r2).toList) (fun _ hX => hX.1.range) Tryz.underlying31 rfl (hlenD _ _) hHeld ?_
    simp only [j1, j2, j3, j4, j5]
    refine jL 1 37 (.tmp 4) (some 53) (cs := (rlC v L).toList) (fun _ hX => hX.2.range) Tryz.underlying37 rfl (hlenL _ _) hHeld ?_
    simp only [j1, j2, j3, j4, j5]
    refine jM 2 (.tmp 12) (some 54) (.int .i64 c) hHeld ?_
    simp only [j1, j2, j3, j4, j5]
    refine jM 4 (.tmp 12) (some 56) (.int .i64 c) hHeld ?_
    simp only [j1, j2, j3, j4, j5]
    refine jW [3] ?_
    refine jC 3 (.call { callee := .value (.func 48), args := #[.tmp 53, .tmp 54], argTypes := #[37, 3] }) (some 55) 48 (#[.agg (rlC v L), .int .i64 c]) ?_ jN
    refine (ref19_after v L c wS (HRS.out.rlk HX3.out.lk (HX3.out.nd _ (.inr (.inr (.inl rfl)))).2 (HX3.out.nd _ (.inr (.inr (.inr rfl)))).2)).mono ?_
    rintro e wk1 ⟨rfl, hk1⟩
    have HR1 := jz (HRS.out.keep hk1)
    clear hk1
    refine ⟨_, rfl, HDO.out _ _ _ HR1.out, fun _ => ?_⟩
    simp only [j1, j2, j3, j4, j5]
    refine jW [5] ?_
    refine jR 5 31 (.tmp 6) (.tmp 52) none (cs := (refC m2 r2).toList) (there_all HR1.out.a rfl) (hlenD _ _) (HOD.out) (HDO.out _ _ _ (jz (HR1.out.stA ((refC m2 r2).toList) rfl)).out) ?_ jN
    simp only [j1, j2, j3, j4, j5]
    obtain ⟨wk2, hwk2⟩ : ∃ wx, wx = (wk1.setCells (N + 2) 0 ((refC m2 r2).toList)) := ⟨_, rfl⟩
    have HR2 := jz (HR1.out.stA ((refC m2 r2).toList) rfl)
    rw [← hwk2] at HR2 ⊢
    clear hwk2
    refine jW [6] ?_
    refine jR 6 37 (.tmp 7) (.tmp 55) none (cs := (rlC v (rafter L c)).toList) (there_all HR2.out.b rfl) (hlenL _ _) (HOL.out) (HDO.out _ _ _ (jz (HR2.out.stB ((rlC v (rafter L c)).toList) rfl)).out) ?_ jN
    simp only [j1, j2, j3, j4, j5]
    obtain ⟨wk3, hwk3⟩ : ∃ wx, wx = (wk2.setCells (N + 3) 0 ((rlC v (rafter L c)).toList)) := ⟨_, rfl⟩
    have HR3 := jz (HR2.out.stB ((rlC v (rafter L c)).toList) rfl)
    rw [← hwk3] at HR3 ⊢
    clear hwk3
    refine jT 7 (.assign (.tmp 56)) (some 8) (.int .i64 c) (HDO.out _ _ _ HR3.out) ?_
    simp only [j1, j2, j3, j4, j5]
    refine wpAnyH_done (by kernel_rfl) ?_ _
    go_wp2_with fail
    go_meet
    exact ⟨rfl, HR3⟩
   case rest =>
    obtain ⟨rfl, HRR⟩ := hcut
    rename World => wz
    have hfin := HX3.out.ret HRR.out (⟨HX3.out.lk.sn, HX3.out.lk.ok, HX3.out.lk.ln, HX3.out.lk.side, HX3.out.lk.gen, HX3.out.lk.last, HX3.out.lk.lt⟩) (fun _ e => e)
    go_wp2_with fail
    exact bodyPost_ret (results_cell2 rfl _ rfl HRR.out.a.range Tryz.underlying31 rfl refI rfl HRR.out.b.range Tryz.underlying37 rfl rlI) rfl ⟨m2, v, by rw [HF.out.1, HF.out.2.1, HF.out.2.2]; rfl, by rw [HF.out.2.1]; exact hfin.1, by rw [HF.out.2.2]; exact hfin.2.1, hfin.2.2.1, by rw [HF.out.2.1]; exact hfin.2.2.2.1, hfin.2.2.2.2⟩
 ·obtain rfl : G = 4294967295 := by omega
  have HF : Hid ((rrewR r L qs).2.2 = 13 ∧ (rrewR r L qs).1 = r ∧ (rrewR r L qs).2.1 = L) := jz (by unfold rrewR; rw [hhas, hbrk, ← HGG.out]; exact ⟨rfl, rfl, rfl⟩)
  clear hhas hbrk
  go_upto_region 8 with fail
  go_cut [8] from 33 to 34 (fun x W => x = .int .i64 13 ∧ Hid (R2 w.heap.size w1 W (N + 2) (N + 3) 31 37 (refC m r) (rlC v (L))))
  case first =>
   obtain ⟨wS, hwS⟩ : ∃ wS, wS = w1.drew := ⟨_, rfl⟩
   have hbS : Below w1.heap.size w1 wS := by rw [hwS]; exact (Below.refl _ _).drew
   have HRS : Hid (R2 w.heap.size w1 wS (N + 2) (N + 3) 31 37 refZ rlZ) := jz ((R2.start HX1.out.a HX1.out.b HX1.out.p.n2.2.2 ⟨HX1.out.p.lo.2.2.1, HX1.out.p.lo.2.2.2⟩).keep hbS)
   have HDO : Hid (∀ xA xB W, R2 w.heap.size w1 W (N + 2) (N + 3) 31 37 xA xB → Blk W (N) 31 (refC m r) ∧ Blk W (N + 1) 37 (rlC v L)) := jz (fun xA xB W k => ⟨k.old HX1.out.d HX1.out.p.n1.2.1 HX1.out.p.n1.2.2, k.old HX1.out.l HX1.out.p.n2.1 HX1.out.p.n2.2.1⟩)
   have HOD : Hid (∀ u ∈ (refC m r).toList, u.oneCell' = true) := jz (fun u hu => by have := refC_one HX1.out.k; rw [Array.all_eq_true_iff_forall_mem] at this; exact this u (by simpa using hu))
   have HOL : Hid (∀ u ∈ (rlC v (L)).toList, u.oneCell' = true) := jz (fun u hu => by have := rlC_one (L := L) (HX1.out.lk); rw [Array.all_eq_true_iff_forall_mem] at this; exact this u (by simpa using hu))
   clear hbS
   refine held_start 5 (fun W => Blk W (N) 31 (refC m r) ∧ Blk W (N + 1) 37 (rlC v L)) (by kernel_rfl) (by kernel_rfl) (by rw [← hwS]; exact HDO.out _ _ _ HRS.out) (fun hHeld => ?_)
   rw [← hwS] at hHeld ⊢
   clear hwS
   refine jL 0 31 (.tmp 3) (some 33) (cs := (refC m r).toList) (fun _ hX => hX.1.range) Tryz.underlying31 rfl (hlenD _ _) hHeld ?_
   simp only [j1, j2, j3, j4, j5]
   refine jL 1 37 (.tmp 4) (some 34) (cs := (rlC v L).toList) (fun _ hX => hX.2.range) Tryz.underlying37 rfl (hlenL _ _) hHeld ?_
   simp only [j1, j2, j3, j4, j5]
   refine jW [2] ?_
   refine jR 2 31 (.tmp 6) (.tmp 33) none (cs := (refC m r).toList) (there_all HRS.out.a rfl) (hlenD _ _) (HOD.out) (HDO.out _ _ _ (jz (HRS.out.stA ((refC m r).toList) rfl)).out) ?_ jN
   simp only [j1, j2, j3, j4, j5]
   obtain ⟨wk1, hwk1⟩ : ∃ wx, wx = (wS.setCells (N + 2) 0 ((refC m r).toList)) := ⟨_, rfl⟩
   have HR1 := jz (HRS.out.stA ((refC m r).toList) rfl)
   rw [← hwk1] at HR1 ⊢
   clear hwk1
   refine jW [3] ?_
   refine jR 3 37 (.tmp 7) (.tmp 34) none (cs := (rlC v (L)).toList) (there_all HR1.out.b rfl) (hlenL _ _) (HOL.out) (HDO.out _ _ _ (jz (HR1.out.stB ((rlC v (L)).toList) rfl)).out) ?_ jN
   simp only [j1, j2, j3, j4, j5]
   obtain ⟨wk2, hwk2⟩ : ∃ wx, wx = (wk1.setCells (N + 3) 0 ((rlC v (L)).toList)) := ⟨_, rfl⟩
   have HR2 := jz (HR1.out.stB ((rlC v (L)).toList) rfl)
   rw [← hwk2] at HR2 ⊢
   clear hwk2
   refine jT 4 (.assign (.const (.int .i64 13))) (some 8) (.int .i64 13) (HDO.out _ _ _ HR2.out) ?_
   simp only [j1, j2, j3, j4, j5]
   refine wpAnyH_done (by kernel_rfl) ?_ _
   go_wp2_with fail
   go_meet
   exact ⟨rfl, HR2⟩
  case rest =>
   obtain ⟨rfl, HRR⟩ := hcut
   rename World => wz
   have hfin := HX1.out.ret HRR.out (HX1.out.lk) (fun _ e => e)
   go_wp2_with fail
   exact bodyPost_ret (results_cell2 rfl _ rfl HRR.out.a.range Tryz.underlying31 rfl refI rfl HRR.out.b.range Tryz.underlying37 rfl rlI) rfl ⟨m, v, by rw [HF.out.1, HF.out.2.1, HF.out.2.2]; rfl, by rw [HF.out.2.1]; exact hfin.1, by rw [HF.out.2.2]; exact hfin.2.1, hfin.2.2.1, by rw [HF.out.2.1]; exact hfin.2.2.2.1, hfin.2.2.2.2⟩
end Go.Proofs.YtillkpjflcgkeaaGreat
