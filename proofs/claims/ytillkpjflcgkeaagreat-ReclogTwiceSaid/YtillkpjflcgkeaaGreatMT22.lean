import Derived.Test.YtillkpjflcgkeaaGreatMT21
import Derived.Test.YtillkpjflcgkeaaGreatMT11
import Derived.Lib.SlBytesConst
set_option linter.unusedSimpArgs false
set_option maxRecDepth 100000
namespace Go.Proofs.YtillkpjflcgkeaaGreat
open Go.RowKit
attribute [local irreducible] wpQuiet wpAnyH
def rwsD (r : RefD) (a : Int) (s : List Int) : RefD := if rwriteA r a = 0 then rsyncD (rwriteD r a s) else rwriteD r a s
def rwsA (r : RefD) (a : Int) (s : List Int) : Int := if rwriteA r a = 0 then rsyncA (rwriteD r a s) else rwriteA r a
def rputD (r : RefD) (f z p : Int) (g : Nat) (q : Ent2) : RefD := if p < 1 then r else if z ≤ p then r else if rightE q then rwsD r (f + p) (entRec g q) else r
def rputA (r : RefD) (f z p : Int) (g : Nat) (q : Ent2) : Int := if p < 1 then 13 else if z ≤ p then 13 else if rightE q then rwsA r (f + p) (entRec g q) else 15
theorem rk_ret {w wr w7 : World} {m m6 : RM} {r r6 : RefD} {B g : Nat} (h0 : RK w m r) (hk : RK wr m6 r6) (hsub : ∀ b ∈ rowsOf m6 r6, b ∈ rowsOf m r ∨ B ≤ b) (hg : w.heap.size ≤ g ∧ g < B) (ho : ∀ k, k ≠ g → w7.heap[k]? = wr.heap[k]?) (hs : w7.heap.size = wr.heap.size) : RK w7 m6 r6 :=
 hk.offK ho (by omega) (fun hm => by
  rcases hsub _ hm with h | h
  ·have := h0.bl _ h; omega
  ·omega)
set_option maxHeartbeats 4000000 in
theorem ref_write18 (m : RM) (r : RefD) (a : Int) (s : List Int) (w : World) (h : RK w m r) (hs : Sec s) (ha : isI64 a) (hst : r.steps + 2 ≤ 1000000000) (ho : r.opn.length + 1 ≤ 50000) :
  Calls Tryz.prog 70 #[.agg (refC m r), .int .i64 a, .agg (u8s s).toArray] w fun e w' => ∃ m', e = .returned (.tuple #[.agg (refC m' (rwsD r a s)), .int .i64 (rwsA r a s)]) ∧ RK w' m' (rwsD r a s) ∧ Below w.heap.size w w' ∧ ∀ b ∈ rowsOf m' (rwsD r a s), b ∈ rowsOf m r ∨ w.heap.size ≤ b := by
 have HK := Lib.hid h
 have hlen : ∀ m r, (Tryz.prog.info? 31).map (·.size) = some (refC m r).toList.length := fun _ _ => refI
 obtain ⟨w1, hw1⟩ : ∃ w1, w1 = ((w.alloc (.cells (refC m r) 31)).alloc (.cells (u8s s).toArray 72)).alloc (.cells refZ 31) := ⟨_, rfl⟩
 have HA1 : Hid (Blk w1 w.heap.size 31 (refC m r)) := jz (by rw [hw1]; exact ((Blk.new _ _ _).alloc _).alloc _)
 have HD1 : Hid (Blk w1 (w.heap.size + 1) 72 (u8s s).toArray) := jz (by rw [hw1]; exact (Blk.newAt _ _ _ _ (by simp)).alloc _)
 have HB1 : Hid (Blk w1 (w.heap.size + 2) 31 refZ) := jz (by rw [hw1]; exact Blk.newAt _ _ _ _ (by simp))
 have HW1 : Hid (Below w.heap.size w w1) := jz (by rw [hw1]; exact bstep (bstep (bel1 _ _) (bel1 _ _)) (bel1 _ _))
 have hr1 := HA1.out.range
 have hr2 := HD1.out.range
 rw [List.toList_toArray] at hr2
 have hus : (Tryz.prog.info? 72).map (·.size) = some (u8s s).length := by rw [sec_length hs]; kernel_rfl
 have HP := jz (ref_write m r a s w1 (h.keep HW1.out) hs ha (by omega) ho)
 have hbd := rwrite_bd r a s
 go_enter Tryz.func70, Tryz.ntmps70
 go_upto_region 1 with (refine al 31 refZ rfl rfl zeroRef ?_)
 rw [← hw1]
 clear hw1 h hs
 go_upto_region 2 with (first
  | (refine ld 31 _ rfl rfl rfl hr1 Tryz.underlying31 rfl (hlen _ _) ?_)
  | (refine ld 72 _ rfl rfl rfl hr2 Tryz.underlying72 rfl hus ?_)
  | (go_at_call 28; refine HP.out.mono ?_; rintro e w2 ⟨m2, rfl, hk2, hb2, hs2⟩)
  | (refine stBlk (cells := refC m2 (rwriteD r a s)) 31 (.tmp 3) (.tmp 14) rfl rfl rfl rfl (HA1.out.keep hb2) refI rfl (refC_one hk2) ?_; intro w3 hB3 hb3 ho3 hs3))
 have hlt : w.heap.size + 3 ≤ w2.heap.size := by have := (HB1.out.keep hb2).lt; omega
 have hsz1 : w.heap.size + 3 ≤ w1.heap.size := by have := HB1.out.lt; omega
 have HA3 : Hid (Blk w3 w.heap.size 31 (refC m2 (rwriteD r a s))) := Lib.hid hB3
 have HB3 : Hid (Blk w3 (w.heap.size + 2) 31 refZ) := jz ((ho3 _ (by omega)).trans (HB1.out.keep hb2))
 have HSUB : Hid (∀ b ∈ rowsOf m2 (rwriteD r a s), b ∈ rowsOf m r ∨ w.heap.size + 3 ≤ b) := jz (fun b hm => by
  rcases hs2 b hm with h | h
  ·exact .inl h
  ·exact .inr (by omega))
 have HK3 : Hid (RK w3 m2 (rwriteD r a s)) := jz (rk_ret HK.out hk2 HSUB.out ⟨Nat.le_refl _, by omega⟩ ho3 hs3)
 have HW3 : Hid (Below w.heap.size w w3) := jz ((bstep HW1.out hb2).trans hb3)
 have h1 := refC_one HK3.out
 have hr3 := HA3.out.range
 clear hB3 hb3 ho3 hs3 hk2 hb2 hs2 HA1 HD1 HB1 HP hr1 hr2
 rcases Bool.eq_false_or_eq_true (rwriteA r a != 0) with tz | tz
 ·have hz : rwriteA r a ≠ 0 := by simpa using tz
  have HV : Hid (rwsD r a s = rwriteD r a s ∧ rwsA r a s = rwriteA r a) := jz (by unfold rwsD rwsA; rw [if_neg hz, if_neg hz]; exact ⟨rfl, rfl⟩)
  go_wp2_with (first
   | (refine ld 31 _ rfl rfl rfl hr3 Tryz.underlying31 rfl (hlen _ _) ?_)
   | (refine stBlk (cells := refC m2 (rwriteD r a s)) 31 (.tmp 6) (.tmp 18) rfl rfl rfl rfl HB3.out refI rfl h1 ?_; intro w7 hB7 hb7 ho7 hs7; have HB7 := Lib.hid hB7; have HE7 := Lib.hid hb7; have HO7 := Lib.hid ho7; have HS7 := Lib.hid hs7; clear hB7 hb7 ho7 hs7))
  have hbw : Below w.heap.size w w7 := HW3.out.trans (HE7.out.mono (by omega))
  have hr7 := HB7.out.range
  exact bodyPost_ret (results_cell1 rfl _ rfl hr7 Tryz.underlying31 rfl (hlen _ _)) rfl ⟨m2, by rw [HV.out.1, HV.out.2]; rfl, by rw [HV.out.1]; exact rk_ret HK.out HK3.out HSUB.out ⟨by omega, by omega⟩ HO7.out HS7.out, hbw, fun b hm => by
   rw [HV.out.1] at hm
   rcases HSUB.out b hm with h | h
   ·exact .inl h
   ·exact .inr (by omega)⟩
 ·have hz : rwriteA r a = 0 := by simpa using tz
  have HV : Hid (rwsD r a s = rsyncD (rwriteD r a s) ∧ rwsA r a s = rsyncA (rwriteD r a s)) := jz (by unfold rwsD rwsA; rw [if_pos hz, if_pos hz]; exact ⟨rfl, rfl⟩)
  have HP := jz (ref_sync m2 (rwriteD r a s) w3 HK3.out (by omega))
  go_wp2_with (first
   | (refine ld 31 _ rfl rfl rfl hr3 Tryz.underlying31 rfl (hlen _ _) ?_)
   | (go_at_call 71; refine HP.out.mono ?_; rintro e w6 ⟨m6, rfl, hk6, hb6, hr6⟩)
   | (refine stBlk (cells := refC m6 (rsyncD (rwriteD r a s))) 31 (.tmp 6) (.tmp 22) rfl rfl rfl rfl (HB3.out.keep hb6) refI rfl (refC_one hk6) ?_; intro w7 hB7 hb7 ho7 hs7; have HB7 := Lib.hid hB7; have HE7 := Lib.hid hb7; have HO7 := Lib.hid ho7; have HS7 := Lib.hid hs7; clear hB7 hb7 ho7 hs7))
  have hbw : Below w.heap.size w w7 := (bstep HW3.out hb6).trans (HE7.out.mono (by omega))
  have hr7 := HB7.out.range
  have hsub : ∀ b ∈ rowsOf m6 (rsyncD (rwriteD r a s)), b ∈ rowsOf m r ∨ w.heap.size + 3 ≤ b := fun b hm => by
   rcases hr6 b hm with h | h
   ·exact HSUB.out b h
   ·have := HB3.out.lt; exact .inr (by omega)
  exact bodyPost_ret (results_cell1 rfl _ rfl hr7 Tryz.underlying31 rfl (hlen _ _)) rfl ⟨m6, by rw [HV.out.1, HV.out.2]; rfl, by rw [HV.out.1]; exact rk_ret HK.out hk6 hsub ⟨by omega, by omega⟩ HO7.out HS7.out, hbw, fun b hm => by
   rw [HV.out.1] at hm
   rcases hsub b hm with h | h
   ·exact .inl h
   ·exact .inr (by omega)⟩
set_option maxHeartbeats 4000000 in
theorem ref_commit (m : RM) (r : RefD) (f : Int) (g : Nat) (w : World) (h : RK w m r) (hf : isI64 f) (hst : r.steps + 2 ≤ 1000000000) (ho : r.opn.length + 1 ≤ 50000) :
  Calls Tryz.prog 50 #[.agg (refC m r), .int .i64 f, .int .u32 g] w fun e w' => ∃ m', e = .returned (.tuple #[.agg (refC m' (rwsD r f (rec g toll))), .int .i64 (rwsA r f (rec g toll))]) ∧ RK w' m' (rwsD r f (rec g toll)) ∧ Below w.heap.size w w' ∧ ∀ b ∈ rowsOf m' (rwsD r f (rec g toll)), b ∈ rowsOf m r ∨ w.heap.size ≤ b := by
 have HK := Lib.hid h
 have hlen : ∀ m r, (Tryz.prog.info? 31).map (·.size) = some (refC m r).toList.length := fun _ _ => refI
 obtain ⟨w1, hw1⟩ : ∃ w1, w1 = (w.alloc (.cells (refC m r) 31)).alloc (.cells refZ 31) := ⟨_, rfl⟩
 have HA1 : Hid (Blk w1 w.heap.size 31 (refC m r)) := jz (by rw [hw1]; exact (Blk.new _ _ _).alloc _)
 have HB1 : Hid (Blk w1 (w.heap.size + 1) 31 refZ) := jz (by rw [hw1]; exact Blk.newAt _ _ _ _ (by simp))
 have HW1 : Hid (Below w.heap.size w w1) := jz (by rw [hw1]; exact bstep (bel1 _ _) (bel1 _ _))
 obtain ⟨wS, hwS⟩ : ∃ wS, wS = w1.drew := ⟨_, rfl⟩
 have hbS : Below w1.heap.size w1 wS := by rw [hwS]; exact (Below.refl _ _).drew
 have HAS := jz (HA1.out.keep hbS)
 have HBS := jz (HB1.out.keep hbS)
 have HWS := jz (bstep HW1.out hbS)
 have hsS : w.heap.size + 2 ≤ wS.heap.size := by have := HBS.out.lt; omega
 have HST : Hid (∀ W : World, Below wS.heap.size wS W → W.rangeAt w.heap.size 0 (refC m r).toList) := jz (fun W hb => (HAS.out.keep hb).range)
 have HSR : Hid (Sec (rec g toll)) := Lib.hid ⟨rec_length g toll (by decide), rec_bys g toll toll_bys⟩
 have HMK := jz (fun (v : Value) (W : World) (hs : Sn W 1 v toll.length (u8s toll)) => ref_make g toll v W hs toll_bys (by decide))
 have HWR := jz (fun (W : World) (hb : Below wS.heap.size wS W) => ref_write18 m r f (rec g toll) W (HK.out.keep (bstep HWS.out hb)) HSR.out hf hst ho)
 clear h hbS
 go_enter Tryz.func50, Tryz.ntmps50
 go_upto_region 1 with (refine al 31 refZ rfl rfl zeroRef ?_)
 rw [← hw1]
 clear hw1
 refine held_start 11 (fun w' => w'.rangeAt w.heap.size 0 (refC m r).toList) (by kernel_rfl) (by kernel_rfl) (by rw [← hwS]; exact HST.out _ (Below.refl _ _)) (fun hHeld => ?_)
 rw [← hwS] at hHeld ⊢
 clear hwS
 refine jL 0 31 (.tmp 3) (some 8) (cs := (refC m r).toList) (fun _ hX => hX) Tryz.underlying31 rfl (hlen m r) hHeld ?_
 simp only [j1, j2, j3, j4, j5]
 refine jM 1 (.tmp 1) (some 9) (.int .i64 f) hHeld ?_
 simp only [j1, j2, j3, j4, j5]
 refine jM 2 (.tmp 2) (some 10) (.int .u32 g) hHeld ?_
 simp only [j1, j2, j3, j4, j5]
 refine jW [3] ?_
 refine jS 3 (.buildSlice 74 4 #[(0, .const (.int .u8 84)), (1, .const (.int .u8 79)), (2, .const (.int .u8 76)), (3, .const (.int .u8 76))]) (some 11) (.slice (some ⟨wS.heap.size, 0, none⟩) 4 4) (wS.alloc (.cells #[.int .u8 84, .int .u8 79, .int .u8 76, .int .u8 76] 5)) (HST.out _ (bel1 _ _)) ?_ jN
 simp only [j1, j2, j3, j4, j5]
 refine jW [4] ?_
 refine jS 4 (.convert 74 74 (.tmp 11)) (some 12) (.slice (some ⟨wS.heap.size, 0, none⟩) 4 4) (wS.alloc (.cells #[.int .u8 84, .int .u8 79, .int .u8 76, .int .u8 76] 5 (4, 5))) (hrun := fun o ho => by have hcv := Lib.run_convert_bytes_const (P := Tryz.prog) wS 74 5 #[.int .u8 84, .int .u8 79, .int .u8 76, .int .u8 76] 4 4 Tryz.underlying74 Tryz.underlying5; simp only [List.size_toArray, List.length_cons, List.length_nil] at hcv; unfold execOp; simp only [ho]; go_simp) (HST.out _ (bel1 _ _)) ?_ jN
 simp only [j1, j2, j3, j4, j5]
 obtain ⟨v4, hv4⟩ : ∃ v4, v4 = Value.slice (some ⟨wS.heap.size, 0, none⟩) 4 4 := ⟨_, rfl⟩
 obtain ⟨w4, hw4⟩ : ∃ w4, w4 = wS.alloc (.cells #[.int .u8 84, .int .u8 79, .int .u8 76, .int .u8 76] 5 (4, 5)) := ⟨_, rfl⟩
 have hb4 : Below wS.heap.size wS w4 := by rw [hw4]; exact bel1 _ _
 have hsn : Sn w4 1 v4 toll.length (u8s toll) := by rw [hw4, hv4]; exact toll_sn wS
 have hv4s : ∃ A n c, v4 = Value.slice A n c := ⟨_, _, _, hv4⟩
 rw [← hw4, ← hv4]
 clear hw4 hv4
 obtain ⟨A4, n4, c4, rfl⟩ := hv4s
 refine jW [5] ?_
 refine jC 5 (.call { callee := .value (.func 26), args := #[.tmp 10, .tmp 12], argTypes := #[35, 74] }) (some 13) 26 #[.int .u32 g, .slice A4 n4 c4] ?_ jN
 refine (HMK.out _ w4 hsn).mono ?_
 rintro e w5 ⟨rfl, hb5⟩
 have hB5 := bstep hb4 hb5
 refine ⟨_, rfl, HST.out _ hB5, fun _ => ?_⟩
 simp only [j1, j2, j3, j4, j5]
 refine jW [6] ?_
 refine jC 6 (.call { callee := .value (.func 70), args := #[.tmp 8, .tmp 9, .tmp 13], argTypes := #[31, 3, 72] }) (some 14) 70 #[.agg (refC m r), .int .i64 f, .agg (u8s (rec g toll)).toArray] ?_ jN
 refine (HWR.out w5 hB5).mono ?_
 rintro e w9 ⟨m9, rfl, hk9, hb9, hr9⟩
 have hlt5 := hB5.size
 have hB9 := bstep hB5 hb9
 refine ⟨_, rfl, HST.out _ hB9, fun hH => ?_⟩
 simp only [j1, j2, j3, j4, j5]
 refine jT 7 (.extract (.tmp 14) 0) (some 15) (.agg (refC m9 (rwsD r f (rec g toll)))) (by assumption) ?_
 simp only [j1, j2, j3, j4, j5]
 refine jT 8 (.extract (.tmp 14) 1) (some 16) (.int .i64 (rwsA r f (rec g toll))) (by assumption) ?_
 simp only [j1, j2, j3, j4, j5]
 have hoth : ∀ k, k ≠ w.heap.size + 1 → (w9.setCells (w.heap.size + 1) 0 (refC m9 (rwsD r f (rec g toll))).toList).heap[k]? = w9.heap[k]? := fun k hk => setCells_other hk _ _ _
 have hsz : (w9.setCells (w.heap.size + 1) 0 (refC m9 (rwsD r f (rec g toll))).toList).heap.size = w9.heap.size := (setCells_below (B := 0) (Nat.zero_le _) _ _ _).2
 have hS9 : (w9.setCells (w.heap.size + 1) 0 (refC m9 (rwsD r f (rec g toll))).toList).rangeAt w.heap.size 0 (refC m r).toList := Blk.range (t := 31) (cs := refC m r) ((hoth w.heap.size (by omega)).trans (HAS.out.keep hB9))
 have honel : ∀ u ∈ (refC m9 (rwsD r f (rec g toll))).toList, u.oneCell' = true := fun u hu => by have := refC_one hk9; rw [Array.all_eq_true_iff_forall_mem] at this; exact this u (by simpa using hu)
 refine jW [9] ?_
 refine jR 9 31 (.tmp 6) (.tmp 15) none (cs := (refC m9 (rwsD r f (rec g toll))).toList) (there_all (HBS.out.keep hB9) rfl) (hlen _ _) honel hS9 ?_ jN
 simp only [j1, j2, j3, j4, j5]
 refine jW [10] ?_
 refine jS 10 (.assign (.tmp 16)) (some 7) (.int .i64 (rwsA r f (rec g toll))) (w9.setCells (w.heap.size + 1) 0 (refC m9 (rwsD r f (rec g toll))).toList) hS9 ?_ jN
 simp only [j1, j2, j3, j4, j5]
 refine wpAnyH_done (by kernel_rfl) ?_ _
 have HBZ : Hid (Blk (w9.setCells (w.heap.size + 1) 0 (refC m9 (rwsD r f (rec g toll))).toList) (w.heap.size + 1) 31 (refC m9 (rwsD r f (rec g toll)))) := jz (Blk.setAll _ (HBS.out.keep hB9) rfl)
 have HBW : Hid (Below w.heap.size w (w9.setCells (w.heap.size + 1) 0 (refC m9 (rwsD r f (rec g toll))).toList)) := jz ((bstep HWS.out hB9).trans (setCells_below (by omega) _ _ _).1)
 have HSUB : Hid (∀ b ∈ rowsOf m9 (rwsD r f (rec g toll)), b ∈ rowsOf m r ∨ w.heap.size + 2 ≤ b) := jz (fun b hm => by
  rcases hr9 b hm with h | h
  ·exact .inl h
  ·exact .inr (by omega))
 have HKZ : Hid (RK (w9.setCells (w.heap.size + 1) 0 (refC m9 (rwsD r f (rec g toll))).toList) m9 (rwsD r f (rec g toll))) := jz (rk_ret HK.out hk9 HSUB.out ⟨by omega, by omega⟩ hoth hsz)
 obtain ⟨wz, hwz⟩ : ∃ wz, wz = (w9.setCells (w.heap.size + 1) 0 (refC m9 (rwsD r f (rec g toll))).toList) := ⟨_, rfl⟩
 rw [← hwz] at HBZ HBW HKZ ⊢
 clear hwz hS9 hoth hsz honel hk9 hB9 hb9 hr9 hH
 go_wp2_with fail
 have hr7 := HBZ.out.range
 exact bodyPost_ret (results_cell1 rfl _ rfl hr7 Tryz.underlying31 rfl (hlen _ _)) rfl ⟨m9, rfl, HKZ.out, HBW.out, fun b hm => by
  skip
  rcases HSUB.out b hm with h | h
  ·exact .inl h
  ·exact .inr (by omega)⟩
set_option maxHeartbeats 4000000 in
theorem ref_put18 (m : RM) (r : RefD) (f z p : Int) (g : Nat) (q : Ent2) (w : World) (h : RK w m r) (hq : EntOk q) (hf : 0 ≤ f ∧ f ≤ 100000) (hz : isI64 z ∧ z ≤ 100000) (hp : isI64 p) (hst : r.steps + 2 ≤ 1000000000) (ho : r.opn.length + 1 ≤ 50000) :
  Calls Tryz.prog 47 #[.agg (refC m r), .int .i64 f, .int .i64 z, .int .i64 p, .int .u32 g, .agg (entP q).toArray] w fun e w' => ∃ m', e = .returned (.tuple #[.agg (refC m' (rputD r f z p g q)), .int .i64 (rputA r f z p g q)]) ∧ RK w' m' (rputD r f z p g q) ∧ Below w.heap.size w w' ∧ ∀ b ∈ rowsOf m' (rputD r f z p g q), b ∈ rowsOf m r ∨ w.heap.size ≤ b := by
 have HK := Lib.hid h
 have hlen : ∀ m r, (Tryz.prog.info? 31).map (·.size) = some (refC m r).toList.length := fun _ _ => refI
 have la := entP_length q hq
 have hue : (Tryz.prog.info? 43).map (·.size) = some (entP q).length := by rw [la]; kernel_rfl
 have p1 : -9223372036854775808 ≤ p := hp.1
 have p2 : p ≤ 9223372036854775807 := hp.2
 have z1 : -9223372036854775808 ≤ z := hz.1.1
 have z2 : z ≤ 100000 := hz.2
 have f1 : 0 ≤ f := hf.1
 have f2 : f ≤ 100000 := hf.2
 obtain ⟨w1, hw1⟩ : ∃ w1, w1 = ((w.alloc (.cells (refC m r) 31)).alloc (.cells (entP q).toArray 43)).alloc (.cells refZ 31) := ⟨_, rfl⟩
 have HA1 : Hid (Blk w1 w.heap.size 31 (refC m r)) := jz (by rw [hw1]; exact ((Blk.new _ _ _).alloc _).alloc _)
 have HE1 : Hid (Blk w1 (w.heap.size + 1) 43 (entP q).toArray) := jz (by rw [hw1]; exact (Blk.newAt _ _ _ _ (by simp)).alloc _)
 have HB1 : Hid (Blk w1 (w.heap.size + 2) 31 refZ) := jz (by rw [hw1]; exact Blk.newAt _ _ _ _ (by simp))
 have HW1 : Hid (Below w.heap.size w w1) := jz (by rw [hw1]; exact bstep (bstep (bel1 _ _) (bel1 _ _)) (bel1 _ _))
 have hr1 := HA1.out.range
 have HR1 := Lib.hid hr1
 have hre := HE1.out.range
 rw [List.toList_toArray] at hre
 have h1 := refC_one h
 have HQ := Lib.hid hq
 clear h hq la hf hz hp hr1
 rcases Bool.eq_false_or_eq_true (decide (p < 1) || decide (z ≤ p)) with t0 | t0
 ·have HV : Hid (rputD r f z p g q = r ∧ rputA r f z p g q = 13) := jz (by
   unfold rputD rputA
   by_cases h1 : p < 1
   ·rw [if_pos h1, if_pos h1]; exact ⟨rfl, rfl⟩
   ·have h2 : z ≤ p := by simp [h1] at t0; exact t0
    rw [if_neg h1, if_neg h1, if_pos h2, if_pos h2]; exact ⟨rfl, rfl⟩)
  have hor : decide (p < 1) = true ∨ (decide (p < 1) = false ∧ decide (z ≤ p) = true) := by
   cases h1 : decide (p < 1) with
   | true => exact .inl rfl
   | false => rw [h1] at t0; exact .inr ⟨rfl, by simpa using t0⟩
  clear t0
  rcases hor with t1 | ⟨t1, t2⟩
  all_goals
   go_enter Tryz.func47, Tryz.ntmps47
   go_upto_region 1 with (refine al 31 refZ rfl rfl zeroRef ?_)
   rw [← hw1]
   clear hw1
   go_wp2_with (first
    | (refine ld 31 _ rfl rfl rfl HR1.out Tryz.underlying31 rfl (hlen m r) ?_)
    | (refine stBlk (cells := refC m r) 31 (.tmp 12) (.tmp 21) rfl rfl rfl rfl HB1.out refI rfl h1 ?_; intro w4 hB4 hb4 ho4 hs4; have HB4 := Lib.hid hB4; have HE4 := Lib.hid hb4; clear hB4 hb4 ho4 hs4))
   have hbw : Below w.heap.size w w4 := HW1.out.trans (HE4.out.mono (by omega))
   have hr4 := HB4.out.range
   exact bodyPost_ret (results_cell1 rfl _ rfl hr4 Tryz.underlying31 rfl (hlen m r)) rfl ⟨m, by rw [HV.out.1, HV.out.2]; rfl, by rw [HV.out.1]; exact HK.out.keep hbw, hbw, by rw [HV.out.1]; exact fun b hb => .inl hb⟩
 ·have t1 : decide (p < 1) = false := by cases h : decide (p < 1) with | true => rw [h] at t0; cases t0 | false => rfl
  have t2 : decide (z ≤ p) = false := by cases h : decide (z ≤ p) with | true => rw [h] at t0; simp at t0 | false => rfl
  have hp1 : ¬ p < 1 := of_decide_eq_false t1
  have hp2 : ¬ z ≤ p := of_decide_eq_false t2
  clear t0
  go_enter Tryz.func47, Tryz.ntmps47
  go_upto_region 1 with (refine al 31 refZ rfl rfl zeroRef ?_)
  rw [← hw1]
  clear hw1
  go_wp2_with (refine ld 43 _ rfl rfl rfl hre Tryz.underlying43 rfl hue ?_)
  refine (ref_right q w1 HQ.out).mono ?_
  rintro e w2 ⟨rfl, hb2⟩
  have HA2 := jz (HA1.out.keep hb2)
  have HE2 := jz (HE1.out.keep hb2)
  have HB2 := jz (HB1.out.keep hb2)
  have HW2 := jz (bstep HW1.out hb2)
  clear hb2 HA1 HE1 HB1 HW1 HR1 hre
  cases hrq : rightE q with
  | false =>
   have HV : Hid (rputD r f z p g q = r ∧ rputA r f z p g q = 15) := jz (by unfold rputD rputA; rw [if_neg (show ¬ p < 1 by omega), if_neg (show ¬ p < 1 by omega), if_neg (show ¬ z ≤ p by omega), if_neg (show ¬ z ≤ p by omega), hrq]; exact ⟨rfl, rfl⟩)
   have hr2 := HA2.out.range
   go_wp2_with (first
    | (refine ld 31 _ rfl rfl rfl hr2 Tryz.underlying31 rfl (hlen m r) ?_)
    | (refine stBlk (cells := refC m r) 31 (.tmp 12) (.tmp 25) rfl rfl rfl rfl HB2.out refI rfl h1 ?_; intro w4 hB4 hb4 ho4 hs4; have HB4 := Lib.hid hB4; have HE4 := Lib.hid hb4; clear hB4 hb4 ho4 hs4))
   have hbw : Below w.heap.size w w4 := HW2.out.trans (HE4.out.mono (by omega))
   have hr4 := HB4.out.range
   exact bodyPost_ret (results_cell1 rfl _ rfl hr4 Tryz.underlying31 rfl (hlen m r)) rfl ⟨m, by rw [HV.out.1, HV.out.2]; rfl, by rw [HV.out.1]; exact HK.out.keep hbw, hbw, by rw [HV.out.1]; exact fun b hb => .inl hb⟩
  | true =>
   have HV : Hid (rputD r f z p g q = rwsD r (f + p) (entRec g q) ∧ rputA r f z p g q = rwsA r (f + p) (entRec g q)) := jz (by unfold rputD rputA; rw [if_neg (show ¬ p < 1 by omega), if_neg (show ¬ p < 1 by omega), if_neg (show ¬ z ≤ p by omega), if_neg (show ¬ z ≤ p by omega), if_pos hrq, if_pos hrq]; exact ⟨rfl, rfl⟩)
   have HRQ := Lib.hid hrq
   obtain ⟨wS, hwS⟩ : ∃ wS, wS = w2.drew := ⟨_, rfl⟩
   have hbS : Below w2.heap.size w2 wS := by rw [hwS]; exact (Below.refl _ _).drew
   have HAS := jz (HA2.out.keep hbS)
   have HES := jz (HE2.out.keep hbS)
   have HBS := jz (HB2.out.keep hbS)
   have HWS := jz (bstep HW2.out hbS)
   have hsS : w.heap.size + 3 ≤ wS.heap.size := by have := HBS.out.lt; omega
   have HST : Hid (∀ W : World, Below wS.heap.size wS W → W.rangeAt w.heap.size 0 (refC m r).toList ∧ W.rangeAt (w.heap.size + 1) 0 (entP q)) := jz (fun W hb => ⟨(HAS.out.keep hb).range, by have h := (HES.out.keep hb).range; rw [List.toList_toArray] at h; exact h⟩)
   have HSR : Hid (Sec (entRec g q)) := jz (entRec_sec g HQ.out)
   have hEl := entRec_len HQ.out
   have hEb : Bys (q.1 ++ beB 8 q.2.toNat) := fun x hx => by
    rcases List.mem_append.1 hx with hx | hx
    ·exact HQ.out.dig.byte x hx
    ·exact beB_bys _ _ x hx
   have HMK := jz (fun (v : Value) (W : World) (hs : Sn W 1 v (q.1 ++ beB 8 q.2.toNat).length (u8s (q.1 ++ beB 8 q.2.toNat))) => (show Calls Tryz.prog 26 #[.int .u32 g, v] W fun e w' => e = .returned (.agg (u8s (entRec g q)).toArray) ∧ Below W.heap.size W w' from ref_make g (q.1 ++ beB 8 q.2.toNat) v W hs hEb hEl))
   have HPY := jz (fun W => ref_payload q W HQ.out HRQ.out)
   have h40 : Hid ((q.1 ++ beB 8 q.2.toNat).length = 40) := jz (by rw [List.length_append, HQ.out.dig.len, beB_length])
   have HWR := jz (fun (W : World) (hb : Below wS.heap.size wS W) => ref_write18 m r (f + p) (entRec g q) W (HK.out.keep (bstep HWS.out hb)) HSR.out ⟨by omega, by omega⟩ hst ho)
   have hue2 := Lib.hid hue
   clear hEb hEl hbS
   go_upto_region 5 with fail
   refine held_start 13 (fun w' => w'.rangeAt w.heap.size 0 (refC m r).toList ∧ w'.rangeAt (w.heap.size + 1) 0 (entP q)) (by kernel_rfl) (by kernel_rfl) (by rw [← hwS]; exact HST.out _ (Below.refl _ _)) (fun hHeld => ?_)
   rw [← hwS] at hHeld ⊢
   clear hwS
   refine jL 0 31 (.tmp 6) (some 26) (cs := (refC m r).toList) (fun _ hX => hX.1) Tryz.underlying31 rfl (hlen m r) hHeld ?_
   simp only [j1, j2, j3, j4, j5]
   refine jM 1 (.tmp 1) (some 27) (.int .i64 f) hHeld ?_
   simp only [j1, j2, j3, j4, j5]
   refine jM 2 (.tmp 3) (some 28) (.int .i64 p) hHeld ?_
   simp only [j1, j2, j3, j4, j5]
   refine jT 3 (.binOp .add 3 (.tmp 27) (.tmp 28) 3) (some 29) (.int .i64 (f + p)) (hy := fun o ho wX hX => by unfold execOp; simp only [ho]; go_simp; exact IntWalk.i64_in _ (by omega)) hHeld ?_
   simp only [j1, j2, j3, j4, j5]
   refine jM 4 (.tmp 4) (some 30) (.int .u32 g) hHeld ?_
   simp only [j1, j2, j3, j4, j5]
   refine jL 5 43 (.tmp 11) (some 31) (cs := entP q) (fun _ hX => hX.2) Tryz.underlying43 rfl hue2.out hHeld ?_
   simp only [j1, j2, j3, j4, j5]
   refine jW [6] ?_
   refine jC 6 (.call { callee := .value (.func 27), args := #[.tmp 31], argTypes := #[43] }) (some 32) 27 #[.agg (entP q).toArray] ?_ jN
   refine (HPY.out wS).mono ?_
   rintro e w4 ⟨v4, rfl, ho4, hb4⟩
   refine ⟨_, rfl, HST.out _ hb4, fun _ => ?_⟩
   simp only [j1, j2, j3, j4, j5]
   refine jW [7] ?_
   refine jC 7 (.call { callee := .value (.func 26), args := #[.tmp 30, .tmp 32], argTypes := #[35, 74] }) (some 33) 26 #[.int .u32 g, v4] ?_ jN
   refine (HMK.out v4 w4 (by rw [h40.out]; exact Sn.own ho4)).mono ?_
   rintro e w5 ⟨rfl, hb5⟩
   have hB5 := bstep hb4 hb5
   refine ⟨_, rfl, HST.out _ hB5, fun _ => ?_⟩
   simp only [j1, j2, j3, j4, j5]
   refine jW [8] ?_
   refine jC 8 (.call { callee := .value (.func 70), args := #[.tmp 26, .tmp 29, .tmp 33], argTypes := #[31, 3, 72] }) (some 34) 70 #[.agg (refC m r), .int .i64 (f + p), .agg (u8s (entRec g q)).toArray] ?_ jN
   refine (HWR.out w5 hB5).mono ?_
   rintro e w9 ⟨m9, rfl, hk9, hb9, hr9⟩
   have hlt5 := hB5.size
   have hB9 := bstep hB5 hb9
   refine ⟨_, rfl, HST.out _ hB9, fun hH => ?_⟩
   simp only [j1, j2, j3, j4, j5]
   refine jT 9 (.extract (.tmp 34) 0) (some 35) (.agg (refC m9 (rwsD r (f + p) (entRec g q)))) (by assumption) ?_
   simp only [j1, j2, j3, j4, j5]
   refine jT 10 (.extract (.tmp 34) 1) (some 36) (.int .i64 (rwsA r (f + p) (entRec g q))) (by assumption) ?_
   simp only [j1, j2, j3, j4, j5]
   have hoth : ∀ k, k ≠ w.heap.size + 2 → (w9.setCells (w.heap.size + 2) 0 (refC m9 (rwsD r (f + p) (entRec g q))).toList).heap[k]? = w9.heap[k]? := fun k hk => setCells_other hk _ _ _
   have hsz : (w9.setCells (w.heap.size + 2) 0 (refC m9 (rwsD r (f + p) (entRec g q))).toList).heap.size = w9.heap.size := (setCells_below (B := 0) (Nat.zero_le _) _ _ _).2
   have hS9 : (w9.setCells (w.heap.size + 2) 0 (refC m9 (rwsD r (f + p) (entRec g q))).toList).rangeAt w.heap.size 0 (refC m r).toList ∧ (w9.setCells (w.heap.size + 2) 0 (refC m9 (rwsD r (f + p) (entRec g q))).toList).rangeAt (w.heap.size + 1) 0 (entP q) := ⟨Blk.range (t := 31) (cs := refC m r) ((hoth w.heap.size (by omega)).trans (HAS.out.keep hB9)), fun i u hi => (World.cell?_of_block (a := ⟨w.heap.size + 1, 0 + i, none⟩) (hoth (w.heap.size + 1) (by omega))).trans ((HST.out _ hB9).2 i u hi)⟩
   have honel : ∀ u ∈ (refC m9 (rwsD r (f + p) (entRec g q))).toList, u.oneCell' = true := fun u hu => by have := refC_one hk9; rw [Array.all_eq_true_iff_forall_mem] at this; exact this u (by simpa using hu)
   refine jW [11] ?_
   refine jR 11 31 (.tmp 12) (.tmp 35) none (cs := (refC m9 (rwsD r (f + p) (entRec g q))).toList) (there_all (HBS.out.keep hB9) rfl) (hlen _ _) honel hS9 ?_ jN
   simp only [j1, j2, j3, j4, j5]
   refine jW [12] ?_
   refine jS 12 (.assign (.tmp 36)) (some 13) (.int .i64 (rwsA r (f + p) (entRec g q))) (w9.setCells (w.heap.size + 2) 0 (refC m9 (rwsD r (f + p) (entRec g q))).toList) hS9 ?_ jN
   simp only [j1, j2, j3, j4, j5]
   refine wpAnyH_done (by kernel_rfl) ?_ _
   have HBZ : Hid (Blk (w9.setCells (w.heap.size + 2) 0 (refC m9 (rwsD r (f + p) (entRec g q))).toList) (w.heap.size + 2) 31 (refC m9 (rwsD r (f + p) (entRec g q)))) := jz (Blk.setAll _ (HBS.out.keep hB9) rfl)
   have HBW : Hid (Below w.heap.size w (w9.setCells (w.heap.size + 2) 0 (refC m9 (rwsD r (f + p) (entRec g q))).toList)) := jz ((bstep HWS.out hB9).trans (setCells_below (by omega) _ _ _).1)
   have HSUB : Hid (∀ b ∈ rowsOf m9 (rwsD r (f + p) (entRec g q)), b ∈ rowsOf m r ∨ w.heap.size + 3 ≤ b) := jz (fun b hm => by
    rcases hr9 b hm with h | h
    ·exact .inl h
    ·exact .inr (by omega))
   have HKZ : Hid (RK (w9.setCells (w.heap.size + 2) 0 (refC m9 (rwsD r (f + p) (entRec g q))).toList) m9 (rwsD r (f + p) (entRec g q))) := jz (rk_ret HK.out hk9 HSUB.out ⟨by omega, by omega⟩ hoth hsz)
   obtain ⟨wz, hwz⟩ : ∃ wz, wz = (w9.setCells (w.heap.size + 2) 0 (refC m9 (rwsD r (f + p) (entRec g q))).toList) := ⟨_, rfl⟩
   rw [← hwz] at HBZ HBW HKZ ⊢
   clear hwz hS9 hoth hsz honel hk9 hB9 hb9 hr9 hH
   go_wp2_with fail
   have hr7 := HBZ.out.range
   exact bodyPost_ret (results_cell1 rfl _ rfl hr7 Tryz.underlying31 rfl (hlen _ _)) rfl ⟨m9, by rw [HV.out.1, HV.out.2]; rfl, by rw [HV.out.1]; exact HKZ.out, HBW.out, fun b hm => by
    rw [HV.out.1] at hm
    rcases HSUB.out b hm with h | h
    ·exact .inl h
    ·exact .inr (by omega)⟩
end Go.Proofs.YtillkpjflcgkeaaGreat
