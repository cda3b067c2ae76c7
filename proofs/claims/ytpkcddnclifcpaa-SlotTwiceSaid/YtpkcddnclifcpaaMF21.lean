/- Parts: tollref18.Write, Put, Commit. | tolllaw18.code. | tolllaw18.play: both disks, the operations, what they come to. | tollref15.Fill. | tolllaw18.few. | tolllaw18.play: its boxes. -/
import Derived.Test.YtpkcddnclifcpaaMF20
import Derived.Test.YtpkcddnclifcpaaMF9
import Derived.Lib.SlBytesConst
import Derived.Test.YtpkcddnclifcpaaMF14
import Derived.Test.YtpkcddnclifcpaaMF15
namespace Go.Proofs.Ytpkcddnclifcpaa
open Go.RowKit
attribute [local irreducible] wpQuiet wpAnyH
set_option linter.unusedSimpArgs false

def rwsD (r : RefD) (a : Int) (s : List Int) : RefD := if rwriteA r a = 0 then rsyncD (rwriteD r a s) else rwriteD r a s
def rwsA (r : RefD) (a : Int) (s : List Int) : Int := if rwriteA r a = 0 then rsyncA (rwriteD r a s) else rwriteA r a
def rputD (r : RefD) (f z p : Int) (g : Nat) (q : Ent2) : RefD := if p < 1 then r else if z ≤ p then r else if rightE q then rwsD r (f + p) (entRec g q) else r
def rputA (r : RefD) (f z p : Int) (g : Nat) (q : Ent2) : Int := if p < 1 then 13 else if z ≤ p then 13 else if rightE q then rwsA r (f + p) (entRec g q) else 15
/-- A disk comes back in the box of the result. -/
theorem rk_ret {w wr w7 : World} {m m6 : RM} {r r6 : RefD} {B g : Nat} (h0 : RK w m r) (hk : RK wr m6 r6) (hsub : ∀ b ∈ rowsOf m6 r6, b ∈ rowsOf m r ∨ B ≤ b) (hg : w.heap.size ≤ g ∧ g < B) (ho : ∀ k, k ≠ g → w7.heap[k]? = wr.heap[k]?) (hs : w7.heap.size = wr.heap.size) : RK w7 m6 r6 :=
  hk.offK ho (by omega) (fun hm => by
    rcases hsub _ hm with h | h
    · have := h0.bl _ h; omega
    · omega)

set_option maxRecDepth 100000 in
set_option maxHeartbeats 4000000 in
theorem ref_write18 (m : RM) (r : RefD) (a : Int) (s : List Int) (w : World) (h : RK w m r) (hs : Sec s) (ha : isI64 a) (hst : r.steps + 2 ≤ 1000000000) (ho : r.opn.length + 1 ≤ 50000) :
    Calls Try.prog 72 #[.agg (refC m r), .int .i64 a, .agg (u8s s).toArray] w fun e w' => ∃ m', e = .returned (.tuple #[.agg (refC m' (rwsD r a s)), .int .i64 (rwsA r a s)]) ∧ RK w' m' (rwsD r a s) ∧ Below w.heap.size w w' ∧ ∀ b ∈ rowsOf m' (rwsD r a s), b ∈ rowsOf m r ∨ w.heap.size ≤ b := by
  have HK := Lib.hid h
  have hlen : ∀ m r, (Try.prog.info? 48).map (·.size) = some (refC m r).toList.length := fun _ _ => refI
  obtain ⟨w1, hw1⟩ : ∃ w1, w1 = ((w.alloc (.cells (refC m r) 48)).alloc (.cells (u8s s).toArray 80)).alloc (.cells refZ 48) := ⟨_, rfl⟩
  have HA1 : Hid (Blk w1 w.heap.size 48 (refC m r)) := Lib.hid (by rw [hw1]; exact ((Blk.new _ _ _).alloc _).alloc _)
  have HD1 : Hid (Blk w1 (w.heap.size + 1) 80 (u8s s).toArray) := Lib.hid (by rw [hw1]; exact (Blk.newAt _ _ _ _ (by simp)).alloc _)
  have HB1 : Hid (Blk w1 (w.heap.size + 2) 48 refZ) := Lib.hid (by rw [hw1]; exact Blk.newAt _ _ _ _ (by simp))
  have HW1 : Hid (Below w.heap.size w w1) := Lib.hid (by rw [hw1]; exact bstep (bstep (bel1 _ _) (bel1 _ _)) (bel1 _ _))
  have hr1 := HA1.out.range
  have hr2 := HD1.out.range
  rw [List.toList_toArray] at hr2
  have hus : (Try.prog.info? 80).map (·.size) = some (u8s s).length := by rw [sec_length hs]; kernel_rfl
  have HP := Lib.hid (ref_write m r a s w1 (h.keep HW1.out) hs ha (by omega) ho)
  have hbd := rwrite_bd r a s
  go_enter Try.func72, Try.ntmps72
  go_upto_region 1 with (refine al 48 refZ rfl rfl zeroRef ?_)
  rw [← hw1]
  clear hw1 h hs
  go_upto_region 2 with (first
    | (refine ld 48 _ rfl rfl rfl hr1 Try.underlying48 rfl (hlen _ _) ?_)
    | (refine ld 80 _ rfl rfl rfl hr2 Try.underlying80 rfl hus ?_)
    | (go_at_call 32; refine HP.out.mono ?_; rintro e w2 ⟨m2, rfl, hk2, hb2, hs2⟩)
    | (refine stBlk (cells := refC m2 (rwriteD r a s)) 48 (.tmp 3) (.tmp 14) rfl rfl rfl rfl (HA1.out.keep hb2) refI rfl (refC_one hk2) ?_; intro w3 hB3 hb3 ho3 hs3))
  have hlt : w.heap.size + 3 ≤ w2.heap.size := by have := (HB1.out.keep hb2).lt; omega
  have hsz1 : w.heap.size + 3 ≤ w1.heap.size := by have := HB1.out.lt; omega
  have HA3 : Hid (Blk w3 w.heap.size 48 (refC m2 (rwriteD r a s))) := Lib.hid hB3
  have HB3 : Hid (Blk w3 (w.heap.size + 2) 48 refZ) := Lib.hid ((ho3 _ (by omega)).trans (HB1.out.keep hb2))
  have HSUB : Hid (∀ b ∈ rowsOf m2 (rwriteD r a s), b ∈ rowsOf m r ∨ w.heap.size + 3 ≤ b) := Lib.hid (fun b hm => by
    rcases hs2 b hm with h | h
    · exact .inl h
    · exact .inr (by omega))
  have HK3 : Hid (RK w3 m2 (rwriteD r a s)) := Lib.hid (rk_ret HK.out hk2 HSUB.out ⟨Nat.le_refl _, by omega⟩ ho3 hs3)
  have HW3 : Hid (Below w.heap.size w w3) := Lib.hid ((bstep HW1.out hb2).trans hb3)
  have h1 := refC_one HK3.out
  have hr3 := HA3.out.range
  clear hB3 hb3 ho3 hs3 hk2 hb2 hs2 HA1 HD1 HB1 HP hr1 hr2
  rcases Bool.eq_false_or_eq_true (rwriteA r a != 0) with tz | tz
  · have hz : rwriteA r a ≠ 0 := by simpa using tz
    have HV : Hid (rwsD r a s = rwriteD r a s ∧ rwsA r a s = rwriteA r a) := Lib.hid (by unfold rwsD rwsA; rw [if_neg hz, if_neg hz]; exact ⟨rfl, rfl⟩)
    go_wp2_with (first
      | (refine ld 48 _ rfl rfl rfl hr3 Try.underlying48 rfl (hlen _ _) ?_)
      | (refine stBlk (cells := refC m2 (rwriteD r a s)) 48 (.tmp 6) (.tmp 18) rfl rfl rfl rfl HB3.out refI rfl h1 ?_; intro w7 hB7 hb7 ho7 hs7; have HB7 := Lib.hid hB7; have HE7 := Lib.hid hb7; have HO7 := Lib.hid ho7; have HS7 := Lib.hid hs7; clear hB7 hb7 ho7 hs7))
    have hbw : Below w.heap.size w w7 := HW3.out.trans (HE7.out.mono (by omega))
    have hr7 := HB7.out.range
    exact bodyPost_ret (results_cell1 rfl _ rfl hr7 Try.underlying48 rfl (hlen _ _)) rfl ⟨m2, by rw [HV.out.1, HV.out.2]; rfl, by rw [HV.out.1]; exact rk_ret HK.out HK3.out HSUB.out ⟨by omega, by omega⟩ HO7.out HS7.out, hbw, fun b hm => by
      rw [HV.out.1] at hm
      rcases HSUB.out b hm with h | h
      · exact .inl h
      · exact .inr (by omega)⟩
  · have hz : rwriteA r a = 0 := by simpa using tz
    have HV : Hid (rwsD r a s = rsyncD (rwriteD r a s) ∧ rwsA r a s = rsyncA (rwriteD r a s)) := Lib.hid (by unfold rwsD rwsA; rw [if_pos hz, if_pos hz]; exact ⟨rfl, rfl⟩)
    have HP := Lib.hid (ref_sync m2 (rwriteD r a s) w3 HK3.out (by omega))
    go_wp2_with (first
      | (refine ld 48 _ rfl rfl rfl hr3 Try.underlying48 rfl (hlen _ _) ?_)
      | (go_at_call 35; refine HP.out.mono ?_; rintro e w6 ⟨m6, rfl, hk6, hb6, hr6⟩)
      | (refine stBlk (cells := refC m6 (rsyncD (rwriteD r a s))) 48 (.tmp 6) (.tmp 22) rfl rfl rfl rfl (HB3.out.keep hb6) refI rfl (refC_one hk6) ?_; intro w7 hB7 hb7 ho7 hs7; have HB7 := Lib.hid hB7; have HE7 := Lib.hid hb7; have HO7 := Lib.hid ho7; have HS7 := Lib.hid hs7; clear hB7 hb7 ho7 hs7))
    have hbw : Below w.heap.size w w7 := (bstep HW3.out hb6).trans (HE7.out.mono (by omega))
    have hr7 := HB7.out.range
    have hsub : ∀ b ∈ rowsOf m6 (rsyncD (rwriteD r a s)), b ∈ rowsOf m r ∨ w.heap.size + 3 ≤ b := fun b hm => by
      rcases hr6 b hm with h | h
      · exact HSUB.out b h
      · have := HB3.out.lt; exact .inr (by omega)
    exact bodyPost_ret (results_cell1 rfl _ rfl hr7 Try.underlying48 rfl (hlen _ _)) rfl ⟨m6, by rw [HV.out.1, HV.out.2]; rfl, by rw [HV.out.1]; exact rk_ret HK.out hk6 hsub ⟨by omega, by omega⟩ HO7.out HS7.out, hbw, fun b hm => by
      rw [HV.out.1] at hm
      rcases hsub b hm with h | h
      · exact .inl h
      · exact .inr (by omega)⟩

set_option maxRecDepth 100000 in
set_option maxHeartbeats 4000000 in
theorem ref_commit (m : RM) (r : RefD) (f : Int) (g : Nat) (w : World) (h : RK w m r) (hf : isI64 f) (hst : r.steps + 2 ≤ 1000000000) (ho : r.opn.length + 1 ≤ 50000) :
    Calls Try.prog 42 #[.agg (refC m r), .int .i64 f, .int .u32 g] w fun e w' => ∃ m', e = .returned (.tuple #[.agg (refC m' (rwsD r f (rec g toll))), .int .i64 (rwsA r f (rec g toll))]) ∧ RK w' m' (rwsD r f (rec g toll)) ∧ Below w.heap.size w w' ∧ ∀ b ∈ rowsOf m' (rwsD r f (rec g toll)), b ∈ rowsOf m r ∨ w.heap.size ≤ b := by
  have HK := Lib.hid h
  have hlen : ∀ m r, (Try.prog.info? 48).map (·.size) = some (refC m r).toList.length := fun _ _ => refI
  obtain ⟨w1, hw1⟩ : ∃ w1, w1 = (w.alloc (.cells (refC m r) 48)).alloc (.cells refZ 48) := ⟨_, rfl⟩
  have HA1 : Hid (Blk w1 w.heap.size 48 (refC m r)) := Lib.hid (by rw [hw1]; exact (Blk.new _ _ _).alloc _)
  have HB1 : Hid (Blk w1 (w.heap.size + 1) 48 refZ) := Lib.hid (by rw [hw1]; exact Blk.newAt _ _ _ _ (by simp))
  have HW1 : Hid (Below w.heap.size w w1) := Lib.hid (by rw [hw1]; exact bstep (bel1 _ _) (bel1 _ _))
  obtain ⟨wS, hwS⟩ : ∃ wS, wS = w1.drew := ⟨_, rfl⟩
  have hbS : Below w1.heap.size w1 wS := by rw [hwS]; exact (Below.refl _ _).drew
  have HAS := Lib.hid (HA1.out.keep hbS)
  have HBS := Lib.hid (HB1.out.keep hbS)
  have HWS := Lib.hid (bstep HW1.out hbS)
  have hsS : w.heap.size + 2 ≤ wS.heap.size := by have := HBS.out.lt; omega
  have HST : Hid (∀ W : World, Below wS.heap.size wS W → W.rangeAt w.heap.size 0 (refC m r).toList) := Lib.hid (fun W hb => (HAS.out.keep hb).range)
  have HSR : Hid (Sec (rec g toll)) := Lib.hid ⟨rec_length g toll (by decide), rec_bys g toll toll_bys⟩
  have HMK := Lib.hid (fun (v : Value) (W : World) (hs : Sn W 1 v toll.length (u8s toll)) => ref_make g toll v W hs toll_bys (by decide))
  have HWR := Lib.hid (fun (W : World) (hb : Below wS.heap.size wS W) => ref_write18 m r f (rec g toll) W (HK.out.keep (bstep HWS.out hb)) HSR.out hf hst ho)
  clear h hbS
  go_enter Try.func42, Try.ntmps42
  go_upto_region 1 with (refine al 48 refZ rfl rfl zeroRef ?_)
  rw [← hw1]
  clear hw1
  refine held_start 11 (fun w' => w'.rangeAt w.heap.size 0 (refC m r).toList) (by kernel_rfl) (by kernel_rfl) (by rw [← hwS]; exact HST.out _ (Below.refl _ _)) (fun hHeld => ?_)
  rw [← hwS] at hHeld ⊢
  clear hwS
  refine hLoad 0 48 (Operand.tmp 3) (some 8) (cs := (refC m r).toList) (by kernel_rfl) (by kernel_rfl) (by kernel_rfl) (by kernel_rfl) (by kernel_rfl) (fun _ _ _ h => h) (by exact rfl) (fun _ hX => hX) Try.underlying48 rfl (hlen m r) hHeld ?_
  simp only [Act.put, List.setIfInBounds_toArray, List.set_cons_zero, List.set_cons_succ]
  refine hMove 1 (Operand.tmp 1) (some 9) (.int .i64 f) (by kernel_rfl) (by kernel_rfl) (by kernel_rfl) (by kernel_rfl) (by kernel_rfl) (fun _ _ _ h => h) (by exact rfl) hHeld ?_
  simp only [Act.put, List.setIfInBounds_toArray, List.set_cons_zero, List.set_cons_succ]
  refine hMove 2 (Operand.tmp 2) (some 10) (.int .u32 g) (by kernel_rfl) (by kernel_rfl) (by kernel_rfl) (by kernel_rfl) (by kernel_rfl) (fun _ _ _ h => h) (by exact rfl) hHeld ?_
  simp only [Act.put, List.setIfInBounds_toArray, List.set_cons_zero, List.set_cons_succ]
  refine wpAnyH_ready (rs := [3]) (by kernel_rfl) (by simp) ?_
  refine rStep 3 (Op.buildSlice 88 4 #[(0, Operand.const (Value.int IntKind.u8 84)), (1, Operand.const (Value.int IntKind.u8 79)), (2, Operand.const (Value.int IntKind.u8 76)), (3, Operand.const (Value.int IntKind.u8 76))]) (some 11) (.slice (some ⟨wS.heap.size, 0, none⟩) 4 4) (wS.alloc (.cells #[.int .u8 84, .int .u8 79, .int .u8 76, .int .u8 76] 5)) (by kernel_rfl) (by kernel_rfl) (fun o ho => by unfold execOp; simp only [ho]; go_simp) (HST.out _ (bel1 _ _)) ?_ AllReadyH.nil
  simp only [Act.put, List.setIfInBounds_toArray, List.set_cons_zero, List.set_cons_succ]
  refine wpAnyH_ready (rs := [4]) (by kernel_rfl) (by simp) ?_
  refine rStep 4 (Op.convert 88 88 (Operand.tmp 11)) (some 12) (.slice (some ⟨wS.heap.size, 0, none⟩) 4 4) (wS.alloc (.cells #[.int .u8 84, .int .u8 79, .int .u8 76, .int .u8 76] 5 (4, 5))) (by kernel_rfl) (by kernel_rfl) (fun o ho => by have hcv := Lib.run_convert_bytes_const (P := Try.prog) wS 88 5 #[.int .u8 84, .int .u8 79, .int .u8 76, .int .u8 76] 4 4 Try.underlying88 Try.underlying5; simp only [List.size_toArray, List.length_cons, List.length_nil] at hcv; unfold execOp; simp only [ho]; go_simp) (HST.out _ (bel1 _ _)) ?_ AllReadyH.nil
  simp only [Act.put, List.setIfInBounds_toArray, List.set_cons_zero, List.set_cons_succ]
  obtain ⟨v4, hv4⟩ : ∃ v4, v4 = Value.slice (some ⟨wS.heap.size, 0, none⟩) 4 4 := ⟨_, rfl⟩
  obtain ⟨w4, hw4⟩ : ∃ w4, w4 = wS.alloc (.cells #[.int .u8 84, .int .u8 79, .int .u8 76, .int .u8 76] 5 (4, 5)) := ⟨_, rfl⟩
  have hb4 : Below wS.heap.size wS w4 := by rw [hw4]; exact bel1 _ _
  have hsn : Sn w4 1 v4 toll.length (u8s toll) := by rw [hw4, hv4]; exact toll_sn wS
  have hv4s : ∃ A n c, v4 = Value.slice A n c := ⟨_, _, _, hv4⟩
  rw [← hw4, ← hv4]
  clear hw4 hv4
  obtain ⟨A4, n4, c4, rfl⟩ := hv4s
  refine wpAnyH_ready (rs := [5]) (by kernel_rfl) (by simp) ?_
  refine rCall 5 (Op.call { callee := Callee.value (Operand.func 33), args := #[Operand.tmp 10, Operand.tmp 12], argTypes := #[39, 88] }) (some 13) 33 #[.int .u32 g, .slice A4 n4 c4] (by kernel_rfl) (by kernel_rfl) (fun o ho => by unfold execOp; simp only [ho]; go_simp) ?_ AllReadyH.nil
  refine (HMK.out _ w4 hsn).mono ?_
  rintro e w5 ⟨rfl, hb5⟩
  have hB5 := bstep hb4 hb5
  refine ⟨_, rfl, HST.out _ hB5, fun _ => ?_⟩
  simp only [Act.put, List.setIfInBounds_toArray, List.set_cons_zero, List.set_cons_succ]
  refine wpAnyH_ready (rs := [6]) (by kernel_rfl) (by simp) ?_
  refine rCall 6 (Op.call { callee := Callee.value (Operand.func 72), args := #[Operand.tmp 8, Operand.tmp 9, Operand.tmp 13], argTypes := #[48, 3, 80] }) (some 14) 72 #[.agg (refC m r), .int .i64 f, .agg (u8s (rec g toll)).toArray] (by kernel_rfl) (by kernel_rfl) (fun o ho => by unfold execOp; simp only [ho]; go_simp) ?_ AllReadyH.nil
  refine (HWR.out w5 hB5).mono ?_
  rintro e w9 ⟨m9, rfl, hk9, hb9, hr9⟩
  have hlt5 := hB5.size
  have hB9 := bstep hB5 hb9
  refine ⟨_, rfl, HST.out _ hB9, fun hH => ?_⟩
  simp only [Act.put, List.setIfInBounds_toArray, List.set_cons_zero, List.set_cons_succ]
  refine hTake 7 (Op.extract (Operand.tmp 14) 0) (some 15) (.agg (refC m9 (rwsD r f (rec g toll)))) (by kernel_rfl) (by kernel_rfl) (by kernel_rfl) (by kernel_rfl) (by kernel_rfl) (fun _ _ _ h => h) (fun o ho wX hX => by unfold execOp; simp only [ho]; go_simp) (by assumption) ?_
  simp only [Act.put, List.setIfInBounds_toArray, List.set_cons_zero, List.set_cons_succ]
  refine hTake 8 (Op.extract (Operand.tmp 14) 1) (some 16) (.int .i64 (rwsA r f (rec g toll))) (by kernel_rfl) (by kernel_rfl) (by kernel_rfl) (by kernel_rfl) (by kernel_rfl) (fun _ _ _ h => h) (fun o ho wX hX => by unfold execOp; simp only [ho]; go_simp) (by assumption) ?_
  simp only [Act.put, List.setIfInBounds_toArray, List.set_cons_zero, List.set_cons_succ]
  have hoth : ∀ k, k ≠ w.heap.size + 1 → (w9.setCells (w.heap.size + 1) 0 (refC m9 (rwsD r f (rec g toll))).toList).heap[k]? = w9.heap[k]? := fun k hk => setCells_other hk _ _ _
  have hsz : (w9.setCells (w.heap.size + 1) 0 (refC m9 (rwsD r f (rec g toll))).toList).heap.size = w9.heap.size := (setCells_below (B := 0) (Nat.zero_le _) _ _ _).2
  have hS9 : (w9.setCells (w.heap.size + 1) 0 (refC m9 (rwsD r f (rec g toll))).toList).rangeAt w.heap.size 0 (refC m r).toList := Blk.range (t := 48) (cs := refC m r) ((hoth w.heap.size (by omega)).trans (HAS.out.keep hB9))
  have honel : ∀ u ∈ (refC m9 (rwsD r f (rec g toll))).toList, u.oneCell' = true := fun u hu => by have := refC_one hk9; rw [Array.all_eq_true_iff_forall_mem] at this; exact this u (by simpa using hu)
  refine wpAnyH_ready (rs := [9]) (by kernel_rfl) (by simp) ?_
  refine rStoreS 9 48 (.tmp 6) (.tmp 15) none (cs := (refC m9 (rwsD r f (rec g toll))).toList) (by kernel_rfl) (by kernel_rfl) (by exact rfl) (by exact rfl) (there_all (HBS.out.keep hB9) rfl) (hlen _ _) honel hS9 ?_ AllReadyH.nil
  simp only [Act.put, List.setIfInBounds_toArray, List.set_cons_zero, List.set_cons_succ]
  refine wpAnyH_ready (rs := [10]) (by kernel_rfl) (by simp) ?_
  refine rStep 10 (Op.assign (Operand.tmp 16)) (some 7) (.int .i64 (rwsA r f (rec g toll))) (w9.setCells (w.heap.size + 1) 0 (refC m9 (rwsD r f (rec g toll))).toList) (by kernel_rfl) (by kernel_rfl) (fun o ho => by unfold execOp; simp only [ho]; go_simp) hS9 ?_ AllReadyH.nil
  simp only [Act.put, List.setIfInBounds_toArray, List.set_cons_zero, List.set_cons_succ]
  refine wpAnyH_done (by kernel_rfl) ?_ _
  have HBZ : Hid (Blk (w9.setCells (w.heap.size + 1) 0 (refC m9 (rwsD r f (rec g toll))).toList) (w.heap.size + 1) 48 (refC m9 (rwsD r f (rec g toll)))) := Lib.hid (Blk.setAll _ (HBS.out.keep hB9) rfl)
  have HBW : Hid (Below w.heap.size w (w9.setCells (w.heap.size + 1) 0 (refC m9 (rwsD r f (rec g toll))).toList)) := Lib.hid ((bstep HWS.out hB9).trans (setCells_below (by omega) _ _ _).1)
  have HSUB : Hid (∀ b ∈ rowsOf m9 (rwsD r f (rec g toll)), b ∈ rowsOf m r ∨ w.heap.size + 2 ≤ b) := Lib.hid (fun b hm => by
    rcases hr9 b hm with h | h
    · exact .inl h
    · exact .inr (by omega))
  have HKZ : Hid (RK (w9.setCells (w.heap.size + 1) 0 (refC m9 (rwsD r f (rec g toll))).toList) m9 (rwsD r f (rec g toll))) := Lib.hid (rk_ret HK.out hk9 HSUB.out ⟨by omega, by omega⟩ hoth hsz)
  obtain ⟨wz, hwz⟩ : ∃ wz, wz = (w9.setCells (w.heap.size + 1) 0 (refC m9 (rwsD r f (rec g toll))).toList) := ⟨_, rfl⟩
  rw [← hwz] at HBZ HBW HKZ ⊢
  clear hwz hS9 hoth hsz honel hk9 hB9 hb9 hr9 hH
  go_wp2_with fail
  have hr7 := HBZ.out.range
  exact bodyPost_ret (results_cell1 rfl _ rfl hr7 Try.underlying48 rfl (hlen _ _)) rfl ⟨m9, rfl, HKZ.out, HBW.out, fun b hm => by
    skip
    rcases HSUB.out b hm with h | h
    · exact .inl h
    · exact .inr (by omega)⟩

set_option maxRecDepth 100000 in
set_option maxHeartbeats 4000000 in
theorem ref_put18 (m : RM) (r : RefD) (f z p : Int) (g : Nat) (q : Ent2) (w : World) (h : RK w m r) (hq : EntOk q) (hf : 0 ≤ f ∧ f ≤ 100000) (hz : isI64 z ∧ z ≤ 100000) (hp : isI64 p) (hst : r.steps + 2 ≤ 1000000000) (ho : r.opn.length + 1 ≤ 50000) :
    Calls Try.prog 41 #[.agg (refC m r), .int .i64 f, .int .i64 z, .int .i64 p, .int .u32 g, .agg (entP q).toArray] w fun e w' => ∃ m', e = .returned (.tuple #[.agg (refC m' (rputD r f z p g q)), .int .i64 (rputA r f z p g q)]) ∧ RK w' m' (rputD r f z p g q) ∧ Below w.heap.size w w' ∧ ∀ b ∈ rowsOf m' (rputD r f z p g q), b ∈ rowsOf m r ∨ w.heap.size ≤ b := by
  have HK := Lib.hid h
  have hlen : ∀ m r, (Try.prog.info? 48).map (·.size) = some (refC m r).toList.length := fun _ _ => refI
  have la := entP_length q hq
  have hue : (Try.prog.info? 26).map (·.size) = some (entP q).length := by rw [la]; kernel_rfl
  have p1 : -9223372036854775808 ≤ p := hp.1
  have p2 : p ≤ 9223372036854775807 := hp.2
  have z1 : -9223372036854775808 ≤ z := hz.1.1
  have z2 : z ≤ 100000 := hz.2
  have f1 : 0 ≤ f := hf.1
  have f2 : f ≤ 100000 := hf.2
  obtain ⟨w1, hw1⟩ : ∃ w1, w1 = ((w.alloc (.cells (refC m r) 48)).alloc (.cells (entP q).toArray 26)).alloc (.cells refZ 48) := ⟨_, rfl⟩
  have HA1 : Hid (Blk w1 w.heap.size 48 (refC m r)) := Lib.hid (by rw [hw1]; exact ((Blk.new _ _ _).alloc _).alloc _)
  have HE1 : Hid (Blk w1 (w.heap.size + 1) 26 (entP q).toArray) := Lib.hid (by rw [hw1]; exact (Blk.newAt _ _ _ _ (by simp)).alloc _)
  have HB1 : Hid (Blk w1 (w.heap.size + 2) 48 refZ) := Lib.hid (by rw [hw1]; exact Blk.newAt _ _ _ _ (by simp))
  have HW1 : Hid (Below w.heap.size w w1) := Lib.hid (by rw [hw1]; exact bstep (bstep (bel1 _ _) (bel1 _ _)) (bel1 _ _))
  have hr1 := HA1.out.range
  have HR1 := Lib.hid hr1
  have hre := HE1.out.range
  rw [List.toList_toArray] at hre
  have h1 := refC_one h
  have HQ := Lib.hid hq
  clear h hq la hf hz hp hr1
  rcases Bool.eq_false_or_eq_true (decide (p < 1) || decide (z ≤ p)) with t0 | t0
  · have HV : Hid (rputD r f z p g q = r ∧ rputA r f z p g q = 13) := Lib.hid (by
      unfold rputD rputA
      by_cases h1 : p < 1
      · rw [if_pos h1, if_pos h1]; exact ⟨rfl, rfl⟩
      · have h2 : z ≤ p := by simp [h1] at t0; exact t0
        rw [if_neg h1, if_neg h1, if_pos h2, if_pos h2]; exact ⟨rfl, rfl⟩)
    have hor : decide (p < 1) = true ∨ (decide (p < 1) = false ∧ decide (z ≤ p) = true) := by
      cases h1 : decide (p < 1) with
      | true => exact .inl rfl
      | false => rw [h1] at t0; exact .inr ⟨rfl, by simpa using t0⟩
    clear t0
    rcases hor with t1 | ⟨t1, t2⟩
    all_goals
      go_enter Try.func41, Try.ntmps41
      go_upto_region 1 with (refine al 48 refZ rfl rfl zeroRef ?_)
      rw [← hw1]
      clear hw1
      go_wp2_with (first
        | (refine ld 48 _ rfl rfl rfl HR1.out Try.underlying48 rfl (hlen m r) ?_)
        | (refine stBlk (cells := refC m r) 48 (.tmp 12) (.tmp 21) rfl rfl rfl rfl HB1.out refI rfl h1 ?_; intro w4 hB4 hb4 ho4 hs4; have HB4 := Lib.hid hB4; have HE4 := Lib.hid hb4; clear hB4 hb4 ho4 hs4))
      have hbw : Below w.heap.size w w4 := HW1.out.trans (HE4.out.mono (by omega))
      have hr4 := HB4.out.range
      exact bodyPost_ret (results_cell1 rfl _ rfl hr4 Try.underlying48 rfl (hlen m r)) rfl ⟨m, by rw [HV.out.1, HV.out.2]; rfl, by rw [HV.out.1]; exact HK.out.keep hbw, hbw, by rw [HV.out.1]; exact fun b hb => .inl hb⟩
  · have t1 : decide (p < 1) = false := by cases h : decide (p < 1) with | true => rw [h] at t0; cases t0 | false => rfl
    have t2 : decide (z ≤ p) = false := by cases h : decide (z ≤ p) with | true => rw [h] at t0; simp at t0 | false => rfl
    have hp1 : ¬ p < 1 := of_decide_eq_false t1
    have hp2 : ¬ z ≤ p := of_decide_eq_false t2
    clear t0
    go_enter Try.func41, Try.ntmps41
    go_upto_region 1 with (refine al 48 refZ rfl rfl zeroRef ?_)
    rw [← hw1]
    clear hw1
    go_wp2_with (refine ld 26 _ rfl rfl rfl hre Try.underlying26 rfl hue ?_)
    refine (ref_right q w1 HQ.out).mono ?_
    rintro e w2 ⟨rfl, hb2⟩
    have HA2 := Lib.hid (HA1.out.keep hb2)
    have HE2 := Lib.hid (HE1.out.keep hb2)
    have HB2 := Lib.hid (HB1.out.keep hb2)
    have HW2 := Lib.hid (bstep HW1.out hb2)
    clear hb2 HA1 HE1 HB1 HW1 HR1 hre
    cases hrq : rightE q with
    | false =>
      have HV : Hid (rputD r f z p g q = r ∧ rputA r f z p g q = 15) := Lib.hid (by unfold rputD rputA; rw [if_neg (show ¬ p < 1 by omega), if_neg (show ¬ p < 1 by omega), if_neg (show ¬ z ≤ p by omega), if_neg (show ¬ z ≤ p by omega), hrq]; exact ⟨rfl, rfl⟩)
      have hr2 := HA2.out.range
      go_wp2_with (first
        | (refine ld 48 _ rfl rfl rfl hr2 Try.underlying48 rfl (hlen m r) ?_)
        | (refine stBlk (cells := refC m r) 48 (.tmp 12) (.tmp 25) rfl rfl rfl rfl HB2.out refI rfl h1 ?_; intro w4 hB4 hb4 ho4 hs4; have HB4 := Lib.hid hB4; have HE4 := Lib.hid hb4; clear hB4 hb4 ho4 hs4))
      have hbw : Below w.heap.size w w4 := HW2.out.trans (HE4.out.mono (by omega))
      have hr4 := HB4.out.range
      exact bodyPost_ret (results_cell1 rfl _ rfl hr4 Try.underlying48 rfl (hlen m r)) rfl ⟨m, by rw [HV.out.1, HV.out.2]; rfl, by rw [HV.out.1]; exact HK.out.keep hbw, hbw, by rw [HV.out.1]; exact fun b hb => .inl hb⟩
    | true =>
      have HV : Hid (rputD r f z p g q = rwsD r (f + p) (entRec g q) ∧ rputA r f z p g q = rwsA r (f + p) (entRec g q)) := Lib.hid (by unfold rputD rputA; rw [if_neg (show ¬ p < 1 by omega), if_neg (show ¬ p < 1 by omega), if_neg (show ¬ z ≤ p by omega), if_neg (show ¬ z ≤ p by omega), if_pos hrq, if_pos hrq]; exact ⟨rfl, rfl⟩)
      have HRQ := Lib.hid hrq
      obtain ⟨wS, hwS⟩ : ∃ wS, wS = w2.drew := ⟨_, rfl⟩
      have hbS : Below w2.heap.size w2 wS := by rw [hwS]; exact (Below.refl _ _).drew
      have HAS := Lib.hid (HA2.out.keep hbS)
      have HES := Lib.hid (HE2.out.keep hbS)
      have HBS := Lib.hid (HB2.out.keep hbS)
      have HWS := Lib.hid (bstep HW2.out hbS)
      have hsS : w.heap.size + 3 ≤ wS.heap.size := by have := HBS.out.lt; omega
      have HST : Hid (∀ W : World, Below wS.heap.size wS W → W.rangeAt w.heap.size 0 (refC m r).toList ∧ W.rangeAt (w.heap.size + 1) 0 (entP q)) := Lib.hid (fun W hb => ⟨(HAS.out.keep hb).range, by have h := (HES.out.keep hb).range; rw [List.toList_toArray] at h; exact h⟩)
      have HSR : Hid (Sec (entRec g q)) := Lib.hid (entRec_sec g HQ.out)
      have hEl := entRec_len HQ.out
      have hEb : Bys (q.1 ++ beB 8 q.2.toNat) := fun x hx => by
        rcases List.mem_append.1 hx with hx | hx
        · exact HQ.out.dig.byte x hx
        · exact beB_bys _ _ x hx
      have HMK := Lib.hid (fun (v : Value) (W : World) (hs : Sn W 1 v (q.1 ++ beB 8 q.2.toNat).length (u8s (q.1 ++ beB 8 q.2.toNat))) => (show Calls Try.prog 33 #[.int .u32 g, v] W fun e w' => e = .returned (.agg (u8s (entRec g q)).toArray) ∧ Below W.heap.size W w' from ref_make g (q.1 ++ beB 8 q.2.toNat) v W hs hEb hEl))
      have HPY := Lib.hid (fun W => ref_payload q W HQ.out HRQ.out)
      have h40 : Hid ((q.1 ++ beB 8 q.2.toNat).length = 40) := Lib.hid (by rw [List.length_append, HQ.out.dig.len, beB_length])
      have HWR := Lib.hid (fun (W : World) (hb : Below wS.heap.size wS W) => ref_write18 m r (f + p) (entRec g q) W (HK.out.keep (bstep HWS.out hb)) HSR.out ⟨by omega, by omega⟩ hst ho)
      have hue2 := Lib.hid hue
      clear hEb hEl hbS
      go_upto_region 5 with fail
      refine held_start 13 (fun w' => w'.rangeAt w.heap.size 0 (refC m r).toList ∧ w'.rangeAt (w.heap.size + 1) 0 (entP q)) (by kernel_rfl) (by kernel_rfl) (by rw [← hwS]; exact HST.out _ (Below.refl _ _)) (fun hHeld => ?_)
      rw [← hwS] at hHeld ⊢
      clear hwS
      refine hLoad 0 48 (Operand.tmp 6) (some 26) (cs := (refC m r).toList) (by kernel_rfl) (by kernel_rfl) (by kernel_rfl) (by kernel_rfl) (by kernel_rfl) (fun _ _ _ h => h) (by exact rfl) (fun _ hX => hX.1) Try.underlying48 rfl (hlen m r) hHeld ?_
      simp only [Act.put, List.setIfInBounds_toArray, List.set_cons_zero, List.set_cons_succ]
      refine hMove 1 (Operand.tmp 1) (some 27) (.int .i64 f) (by kernel_rfl) (by kernel_rfl) (by kernel_rfl) (by kernel_rfl) (by kernel_rfl) (fun _ _ _ h => h) (by exact rfl) hHeld ?_
      simp only [Act.put, List.setIfInBounds_toArray, List.set_cons_zero, List.set_cons_succ]
      refine hMove 2 (Operand.tmp 3) (some 28) (.int .i64 p) (by kernel_rfl) (by kernel_rfl) (by kernel_rfl) (by kernel_rfl) (by kernel_rfl) (fun _ _ _ h => h) (by exact rfl) hHeld ?_
      simp only [Act.put, List.setIfInBounds_toArray, List.set_cons_zero, List.set_cons_succ]
      refine hTake 3 (Op.binOp BinOp.add 3 (Operand.tmp 27) (Operand.tmp 28) 3) (some 29) (.int .i64 (f + p)) (by kernel_rfl) (by kernel_rfl) (by kernel_rfl) (by kernel_rfl) (by kernel_rfl) (fun _ _ _ h => h) (fun o ho wX hX => by unfold execOp; simp only [ho]; go_simp; exact IntWalk.i64_in _ (by omega)) hHeld ?_
      simp only [Act.put, List.setIfInBounds_toArray, List.set_cons_zero, List.set_cons_succ]
      refine hMove 4 (Operand.tmp 4) (some 30) (.int .u32 g) (by kernel_rfl) (by kernel_rfl) (by kernel_rfl) (by kernel_rfl) (by kernel_rfl) (fun _ _ _ h => h) (by exact rfl) hHeld ?_
      simp only [Act.put, List.setIfInBounds_toArray, List.set_cons_zero, List.set_cons_succ]
      refine hLoad 5 26 (Operand.tmp 11) (some 31) (cs := entP q) (by kernel_rfl) (by kernel_rfl) (by kernel_rfl) (by kernel_rfl) (by kernel_rfl) (fun _ _ _ h => h) (by exact rfl) (fun _ hX => hX.2) Try.underlying26 rfl hue2.out hHeld ?_
      simp only [Act.put, List.setIfInBounds_toArray, List.set_cons_zero, List.set_cons_succ]
      refine wpAnyH_ready (rs := [6]) (by kernel_rfl) (by simp) ?_
      refine rCall 6 (Op.call { callee := Callee.value (Operand.func 34), args := #[Operand.tmp 31], argTypes := #[26] }) (some 32) 34 #[.agg (entP q).toArray] (by kernel_rfl) (by kernel_rfl) (fun o ho => by unfold execOp; simp only [ho]; go_simp) ?_ AllReadyH.nil
      refine (HPY.out wS).mono ?_
      rintro e w4 ⟨v4, rfl, ho4, hb4⟩
      refine ⟨_, rfl, HST.out _ hb4, fun _ => ?_⟩
      simp only [Act.put, List.setIfInBounds_toArray, List.set_cons_zero, List.set_cons_succ]
      refine wpAnyH_ready (rs := [7]) (by kernel_rfl) (by simp) ?_
      refine rCall 7 (Op.call { callee := Callee.value (Operand.func 33), args := #[Operand.tmp 30, Operand.tmp 32], argTypes := #[39, 88] }) (some 33) 33 #[.int .u32 g, v4] (by kernel_rfl) (by kernel_rfl) (fun o ho => by unfold execOp; simp only [ho]; go_simp) ?_ AllReadyH.nil
      refine (HMK.out v4 w4 (by rw [h40.out]; exact Sn.own ho4)).mono ?_
      rintro e w5 ⟨rfl, hb5⟩
      have hB5 := bstep hb4 hb5
      refine ⟨_, rfl, HST.out _ hB5, fun _ => ?_⟩
      simp only [Act.put, List.setIfInBounds_toArray, List.set_cons_zero, List.set_cons_succ]
      refine wpAnyH_ready (rs := [8]) (by kernel_rfl) (by simp) ?_
      refine rCall 8 (Op.call { callee := Callee.value (Operand.func 72), args := #[Operand.tmp 26, Operand.tmp 29, Operand.tmp 33], argTypes := #[48, 3, 80] }) (some 34) 72 #[.agg (refC m r), .int .i64 (f + p), .agg (u8s (entRec g q)).toArray] (by kernel_rfl) (by kernel_rfl) (fun o ho => by unfold execOp; simp only [ho]; go_simp) ?_ AllReadyH.nil
      refine (HWR.out w5 hB5).mono ?_
      rintro e w9 ⟨m9, rfl, hk9, hb9, hr9⟩
      have hlt5 := hB5.size
      have hB9 := bstep hB5 hb9
      refine ⟨_, rfl, HST.out _ hB9, fun hH => ?_⟩
      simp only [Act.put, List.setIfInBounds_toArray, List.set_cons_zero, List.set_cons_succ]
      refine hTake 9 (Op.extract (Operand.tmp 34) 0) (some 35) (.agg (refC m9 (rwsD r (f + p) (entRec g q)))) (by kernel_rfl) (by kernel_rfl) (by kernel_rfl) (by kernel_rfl) (by kernel_rfl) (fun _ _ _ h => h) (fun o ho wX hX => by unfold execOp; simp only [ho]; go_simp) (by assumption) ?_
      simp only [Act.put, List.setIfInBounds_toArray, List.set_cons_zero, List.set_cons_succ]
      refine hTake 10 (Op.extract (Operand.tmp 34) 1) (some 36) (.int .i64 (rwsA r (f + p) (entRec g q))) (by kernel_rfl) (by kernel_rfl) (by kernel_rfl) (by kernel_rfl) (by kernel_rfl) (fun _ _ _ h => h) (fun o ho wX hX => by unfold execOp; simp only [ho]; go_simp) (by assumption) ?_
      simp only [Act.put, List.setIfInBounds_toArray, List.set_cons_zero, List.set_cons_succ]
      have hoth : ∀ k, k ≠ w.heap.size + 2 → (w9.setCells (w.heap.size + 2) 0 (refC m9 (rwsD r (f + p) (entRec g q))).toList).heap[k]? = w9.heap[k]? := fun k hk => setCells_other hk _ _ _
      have hsz : (w9.setCells (w.heap.size + 2) 0 (refC m9 (rwsD r (f + p) (entRec g q))).toList).heap.size = w9.heap.size := (setCells_below (B := 0) (Nat.zero_le _) _ _ _).2
      have hS9 : (w9.setCells (w.heap.size + 2) 0 (refC m9 (rwsD r (f + p) (entRec g q))).toList).rangeAt w.heap.size 0 (refC m r).toList ∧ (w9.setCells (w.heap.size + 2) 0 (refC m9 (rwsD r (f + p) (entRec g q))).toList).rangeAt (w.heap.size + 1) 0 (entP q) := ⟨Blk.range (t := 48) (cs := refC m r) ((hoth w.heap.size (by omega)).trans (HAS.out.keep hB9)), fun i u hi => (World.cell?_of_block (a := ⟨w.heap.size + 1, 0 + i, none⟩) (hoth (w.heap.size + 1) (by omega))).trans ((HST.out _ hB9).2 i u hi)⟩
      have honel : ∀ u ∈ (refC m9 (rwsD r (f + p) (entRec g q))).toList, u.oneCell' = true := fun u hu => by have := refC_one hk9; rw [Array.all_eq_true_iff_forall_mem] at this; exact this u (by simpa using hu)
      refine wpAnyH_ready (rs := [11]) (by kernel_rfl) (by simp) ?_
      refine rStoreS 11 48 (.tmp 12) (.tmp 35) none (cs := (refC m9 (rwsD r (f + p) (entRec g q))).toList) (by kernel_rfl) (by kernel_rfl) (by exact rfl) (by exact rfl) (there_all (HBS.out.keep hB9) rfl) (hlen _ _) honel hS9 ?_ AllReadyH.nil
      simp only [Act.put, List.setIfInBounds_toArray, List.set_cons_zero, List.set_cons_succ]
      refine wpAnyH_ready (rs := [12]) (by kernel_rfl) (by simp) ?_
      refine rStep 12 (Op.assign (Operand.tmp 36)) (some 13) (.int .i64 (rwsA r (f + p) (entRec g q))) (w9.setCells (w.heap.size + 2) 0 (refC m9 (rwsD r (f + p) (entRec g q))).toList) (by kernel_rfl) (by kernel_rfl) (fun o ho => by unfold execOp; simp only [ho]; go_simp) hS9 ?_ AllReadyH.nil
      simp only [Act.put, List.setIfInBounds_toArray, List.set_cons_zero, List.set_cons_succ]
      refine wpAnyH_done (by kernel_rfl) ?_ _
      have HBZ : Hid (Blk (w9.setCells (w.heap.size + 2) 0 (refC m9 (rwsD r (f + p) (entRec g q))).toList) (w.heap.size + 2) 48 (refC m9 (rwsD r (f + p) (entRec g q)))) := Lib.hid (Blk.setAll _ (HBS.out.keep hB9) rfl)
      have HBW : Hid (Below w.heap.size w (w9.setCells (w.heap.size + 2) 0 (refC m9 (rwsD r (f + p) (entRec g q))).toList)) := Lib.hid ((bstep HWS.out hB9).trans (setCells_below (by omega) _ _ _).1)
      have HSUB : Hid (∀ b ∈ rowsOf m9 (rwsD r (f + p) (entRec g q)), b ∈ rowsOf m r ∨ w.heap.size + 3 ≤ b) := Lib.hid (fun b hm => by
        rcases hr9 b hm with h | h
        · exact .inl h
        · exact .inr (by omega))
      have HKZ : Hid (RK (w9.setCells (w.heap.size + 2) 0 (refC m9 (rwsD r (f + p) (entRec g q))).toList) m9 (rwsD r (f + p) (entRec g q))) := Lib.hid (rk_ret HK.out hk9 HSUB.out ⟨by omega, by omega⟩ hoth hsz)
      obtain ⟨wz, hwz⟩ : ∃ wz, wz = (w9.setCells (w.heap.size + 2) 0 (refC m9 (rwsD r (f + p) (entRec g q))).toList) := ⟨_, rfl⟩
      rw [← hwz] at HBZ HBW HKZ ⊢
      clear hwz hS9 hoth hsz honel hk9 hB9 hb9 hr9 hH
      go_wp2_with fail
      have hr7 := HBZ.out.range
      exact bodyPost_ret (results_cell1 rfl _ rfl hr7 Try.underlying48 rfl (hlen _ _)) rfl ⟨m9, by rw [HV.out.1, HV.out.2]; rfl, by rw [HV.out.1]; exact HKZ.out, HBW.out, fun b hm => by
        rw [HV.out.1] at hm
        rcases HSUB.out b hm with h | h
        · exact .inl h
        · exact .inr (by omega)⟩
end Go.Proofs.Ytpkcddnclifcpaa
namespace Go.Proofs.Ytpkcddnclifcpaa
open Go.RowKit
attribute [local irreducible] wpQuiet wpAnyH
set_option linter.unusedSimpArgs false
theorem code18 (o : Ans) (w : World) (h : isI64 (codeA o)) : Calls Try.prog 13 #[valE o] w fun e w' => e = .returned (.int .i64 (codeA o)) ∧ Below w.heap.size w w' := by
  obtain ⟨v, hv⟩ : ∃ v, v = valE o := ⟨_, rfl⟩
  have HC := Lib.hid (code_val o w)
  rw [← hv] at HC ⊢
  obtain ⟨c, hc⟩ : ∃ c, c = codeA o := ⟨_, rfl⟩
  rw [← hc] at HC h ⊢
  have h1 : -9223372036854775808 ≤ c := h.1
  have h2 : c ≤ 9223372036854775807 := h.2
  clear hv hc h
  go_enter Try.func13, Try.ntmps13
  go_wp2_with (go_at_call 31; refine HC.out.mono ?_; rintro e w1 ⟨rfl, hb⟩; have HB := Lib.hid hb; clear hb)
  go_ret
  exact ⟨rfl, HB.out⟩
end Go.Proofs.Ytpkcddnclifcpaa
namespace Go.Proofs.Ytpkcddnclifcpaa
open Go.RowKit
attribute [local irreducible] wpQuiet wpAnyH
set_option linter.unusedSimpArgs false

structure Op18 where
  kind : Int
  pos : Int
  half : Bool
  gen : Nat
  ent : Ent2
  more : List Ent2
  byte : Nat
  cuts : List Int
  mv : Value
  cv : Value
def opC18 (o : Op18) : List Value := [.int .i64 o.kind, .int .i64 o.pos, .bool o.half, .int .u32 o.gen] ++ (entP o.ent ++ [o.mv, .int .u8 o.byte, o.cv])
structure Op18Ok (w : World) (o : Op18) : Prop where
  kind : isI64 o.kind
  pos : isI64 o.pos
  gen : o.gen < 4294967296
  ent : EntOk o.ent
  more : Sn w 33 o.mv o.more.length (o.more.flatMap entP)
  mok : ∀ q ∈ o.more, EntOk q
  byte : o.byte ≤ 255
  cuts : Sn w 1 o.cv o.cuts.length (i64s o.cuts)
  cok : ∀ c ∈ o.cuts, isI64 c
def Few18 (o : Op18) : Prop := o.cuts.length ≤ 20 ∧ o.more.length ≤ 20 ∧ -1048576 ≤ o.pos ∧ o.pos ≤ 1048576
theorem Op18Ok.keep {w w' : World} {o : Op18} (h : Op18Ok w o) (hb : Below w.heap.size w w') : Op18Ok w' o := ⟨h.kind, h.pos, h.gen, h.ent, h.more.below hb, h.mok, h.byte, h.cuts.below hb, h.cok⟩
theorem opC18_length {w : World} (o : Op18) (h : Op18Ok w o) : (opC18 o).length = 40 := by
  unfold opC18
  have := entP_length o.ent h.ent
  simp [this]
def fromOf (o : Op18) : Int := if o.half then 5 else 0
def fillL (b : Nat) : List Int := List.replicate 64 (b : Int)
def playD (d : DiskD) (o : Op18) : DiskD :=
  if o.kind = 0 then putD d (fromOf o) 5 o.pos o.gen o.ent else if o.kind = 1 then (fillR d (fromOf o) 5 o.gen o.more).2 else if o.kind = 2 then wsD d (fromOf o) (rec o.gen toll)
  else if o.kind = 3 then writeD d o.pos (fillL o.byte) else if o.kind = 4 then planF d o.pos else if o.kind = 5 then planC d o.pos o.cuts else if o.kind = 6 then crashD d o.cuts else startD d
def rstartD (r : RefD) : RefD := { r with down := false }
def playR (r : RefD) (o : Op18) (v : Value) : RefD :=
  if o.kind = 0 then rputD r (fromOf o) 5 o.pos o.gen o.ent else if o.kind = 1 then (rfillD r (fromOf o) 5 o.gen o.more).1 else if o.kind = 2 then rwsD r (fromOf o) (rec o.gen toll)
  else if o.kind = 3 then rwriteD r o.pos (fillL o.byte) else if o.kind = 4 then rplanD r o.pos false [] v else if o.kind = 5 then rplanD r o.pos true o.cuts v else if o.kind = 6 then rcrashD r o.cuts else rstartD r

/-- Both disks stand, apart from each other; the implementation's was made behind w0. -/
structure PB (w0 w : World) (m : DiskM) (d : DiskD) (mr : RM) (r : RefD) : Prop where
  st : St w0 w m d
  rk : RK w mr r
  dj : ∀ b ∈ rowsOf mr r, b ∉ foot m
theorem PB.keep {w0 w w' : World} {m : DiskM} {d : DiskD} {mr : RM} {r : RefD} (h : PB w0 w m d mr r) (hb : Below w.heap.size w w') : PB w0 w' m d mr r := ⟨h.st.keep hb, h.rk.keep hb, h.dj⟩
theorem PB.disk {w0 w w' : World} {m m' : DiskM} {d d' : DiskD} {mr : RM} {r : RefD} (h : PB w0 w m d mr r) (hk : DK w' m' d') (ht : DT w m w' m') : PB w0 w' m' d' mr r := by
  have hd := h.dj
  refine ⟨h.st.next hk ht, ?_, fun b hb hm => ?_⟩
  · have hs : ∀ {s n : Nat} {v : Value} {xs : List Value}, Sn w s v n xs → (∀ b, v.ownBlock = some b → b ∈ rowsOf mr r) → Sn w' s v n xs := fun hs hm => ht.fo.sn hs (fun b e => hd b (hm b e))
    exact ⟨hs h.rk.sec (fun b e => mem_rows.2 (.inl e)), hs h.rk.opn (fun b e => mem_rows.2 (.inr (.inl e))), hs h.rk.plan (fun b e => mem_rows.2 (.inr (.inr (.inl e)))), fun p hp => hs (h.rk.cuts p hp) (fun b e => mem_rows.2 (.inr (.inr (.inr ⟨p, hp, e⟩)))), h.rk.ok, fun b hm => Nat.lt_of_lt_of_le (h.rk.bl b hm) ht.fo.size⟩
  · rcases ht.sub b hm with h1 | h1
    · exact hd b hb h1
    · have := h.rk.bl b hb; omega
theorem PB.ref {w0 w w' : World} {m : DiskM} {d : DiskD} {mr mr' : RM} {r r' : RefD} (h : PB w0 w m d mr r) (hb : Below w.heap.size w w') (hk : RK w' mr' r') (hs : ∀ b ∈ rowsOf mr' r', b ∈ rowsOf mr r ∨ w.heap.size ≤ b) : PB w0 w' m d mr' r' :=
  ⟨h.st.keep hb, hk, fun b hm => by
    rcases hs b hm with h1 | h1
    · exact h.dj b h1
    · exact h.st.dk.notFoot h1⟩
/-- A block beside the disk and the rows is written. -/
theorem PB.offK {w0 w w' : World} {m : DiskM} {d : DiskD} {mr : RM} {r : RefD} {b : Nat} (h : PB w0 w m d mr r) (hb : Below b w w') (hk : ∀ k, k ≠ b → w'.heap[k]? = w.heap[k]?) (ha : Apart m b) (hr : b ∉ rowsOf mr r) (h0 : w0.heap.size ≤ b) : PB w0 w' m d mr r :=
  ⟨⟨h.st.dk.offK hk hb.size ha, h.st.ft, h.st.bel.trans (hb.mono h0)⟩, h.rk.offK hk hb.size hr, h.dj⟩
theorem code64 (c : Int) (o : Option Int) (h : isI64 c) : isI64 (codeA (some (c, o))) := h
theorem writeA_code (d : DiskD) (a : Int) : isI64 (codeA (writeA d a)) := by
  unfold writeA
  split
  · exact ⟨by decide, by decide⟩
  · split
    · exact ⟨by decide, by decide⟩
    · split
      · exact ⟨by decide, by decide⟩
      · split
        · exact ⟨by decide, by decide⟩
        · exact code64 15 _ ⟨by decide, by decide⟩
theorem syncA_code (d : DiskD) : isI64 (codeA (syncA d)) := by
  unfold syncA
  split
  · exact ⟨by decide, by decide⟩
  · split
    · exact ⟨by decide, by decide⟩
    · split
      · exact ⟨by decide, by decide⟩
      · exact ⟨by decide, by decide⟩
theorem wsA_code (d : DiskD) (a : Int) (s : List Int) : isI64 (codeA (wsA d a s)) := by
  unfold wsA
  split
  · rename_i x h
    rw [← h]; exact writeA_code d a
  · exact syncA_code _
theorem putA_code (d : DiskD) (f z p : Int) (g : Nat) (q : Ent2) : isI64 (codeA (putA d f z p g q)) := by
  unfold putA
  split
  · exact ⟨by decide, by decide⟩
  · split
    · exact ⟨by decide, by decide⟩
    · split
      · exact wsA_code _ _ _
      · exact ⟨by decide, by decide⟩
theorem fillW_code : ∀ (L : List (List Int)) (d : DiskD) (a : Int), isI64 (codeA (fillW d a L).1)
  | [], d, a => syncA_code d
  | s :: L, d, a => by
    unfold fillW
    split
    · rename_i x h
      show isI64 (codeA (some x))
      rw [← h]; exact writeA_code d a
    · exact fillW_code L _ _
theorem fillR_code (d : DiskD) (f z : Int) (g : Nat) (l : List Ent2) : isI64 (codeA (fillR d f z g l).1) := by
  unfold fillR
  split
  · exact code64 13 _ ⟨by decide, by decide⟩
  · split
    · exact fillW_code _ _ _
    · exact code64 15 _ ⟨by decide, by decide⟩
theorem fillL_sec (b : Nat) (h : b ≤ 255) : Sec (fillL b) := ⟨by simp [fillL], fun x hx => by have := (List.mem_replicate.1 hx).2; omega⟩
theorem opI (o : Op18) (h : (opC18 o).length = 40) : (Try.prog.info? 67).map (·.size) = some (opC18 o).length := by rw [h]; kernel_rfl
/-- The fields of an operation's box. -/
theorem op_cells {w : World} {g : Nat} {o : Op18} (hq : EntOk o.ent) (h : Blk w g 67 (opC18 o).toArray) : w.cell? ⟨g, 0, none⟩ = some (.int .i64 o.kind) ∧ w.cell? ⟨g, 1, none⟩ = some (.int .i64 o.pos) ∧ w.cell? ⟨g, 2, none⟩ = some (.bool o.half) ∧ w.cell? ⟨g, 3, none⟩ = some (.int .u32 o.gen) ∧ w.rangeAt g 4 (entP o.ent) ∧ w.cell? ⟨g, 37, none⟩ = some o.mv ∧ w.cell? ⟨g, 38, none⟩ = some (.int .u8 o.byte) ∧ w.cell? ⟨g, 39, none⟩ = some o.cv := by
  have hr := h.range
  rw [List.toList_toArray] at hr
  have hl := entP_length o.ent hq
  have c : ∀ i u, (opC18 o)[i]? = some u → w.cell? ⟨g, i, none⟩ = some u := fun i u hi => by have := hr i u hi; rw [Nat.zero_add] at this; exact this
  refine ⟨c 0 _ rfl, c 1 _ rfl, c 2 _ rfl, c 3 _ rfl, fun i u hi => ?_, c 37 _ ?_, c 38 _ ?_, c 39 _ ?_⟩
  · refine c (4 + i) u ?_
    unfold opC18
    have hlt := (List.getElem?_eq_some_iff.1 hi).1
    rw [List.getElem?_append_right (by simp), List.getElem?_append_left (by simp; omega)]
    simpa using hi
  all_goals
    unfold opC18
    rw [List.getElem?_append_right (by simp), List.getElem?_append_right (by simp; omega)]
    simp [hl]
end Go.Proofs.Ytpkcddnclifcpaa
namespace Go.Proofs.Ytpkcddnclifcpaa
open Go.RowKit
attribute [local irreducible] wpQuiet wpAnyH
set_option linter.unusedSimpArgs false

def fl1 (b k : Nat) : List Int := List.replicate k (b : Int) ++ List.replicate (64 - k) 0
theorem fl1_next (b k : Nat) (h : k < 64) : (fl1 b k).set k (b : Int) = fl1 b (k + 1) := by
  unfold fl1
  rw [List.set_append_right _ _ (by simp), List.length_replicate, Nat.sub_self, show 64 - k = (64 - (k + 1)) + 1 by omega, List.replicate_succ (n := 64 - (k + 1)), List.set_cons_zero, List.replicate_succ' (n := k), List.append_assoc]
  rfl
set_option maxRecDepth 100000 in
set_option maxHeartbeats 4000000 in
theorem ref_fill15 (b : Nat) (w : World) (hb : b ≤ 255) :
    Calls Try.prog 43 #[.int .u8 b] w fun e w' => e = .returned (.agg (u8s (fillL b)).toArray) ∧ Below w.heap.size w w' := by
  obtain ⟨w1, hw1⟩ : ∃ w1, w1 = (w.alloc (.cells z64 80)).alloc (.cells z64 80) := ⟨_, rfl⟩
  have HR : Hid (Blk w1 w.heap.size 80 z64) := Lib.hid (by rw [hw1]; exact (Blk.new _ _ _).alloc _)
  have HB : Hid (Blk w1 (w.heap.size + 1) 80 (u8s (fl1 b 0)).toArray) := Lib.hid (by
    rw [hw1, show fl1 b 0 = zsec by unfold fl1 zsec; simp, ← z64_zsec]
    exact Blk.newAt _ _ _ _ (by simp))
  have HW : Hid (Below w.heap.size w w1) := Lib.hid (by rw [hw1]; exact bstep (bel1 _ _) (bel1 _ _))
  go_enter Try.func43, Try.ntmps43
  go_upto_region 2 with (refine al 80 z64 rfl rfl zero64 ?_)
  rw [← hw1]
  clear hw1
  go_wp2_with fail
  go_loopw [4] (fun i wr => ∃ k : Nat, k ≤ 64 ∧ i = .int .i64 k ∧ Hid (Blk wr w.heap.size 80 z64) ∧ Hid (Blk wr (w.heap.size + 1) 80 (u8s (fl1 b k)).toArray) ∧ Hid (Below w.heap.size w wr)) (fun i _ => 64 - (intOf i).toNat)
  case atStart => exact ⟨0, Nat.zero_le _, rfl, HR, HB, HW⟩
  case round =>
    obtain ⟨k, hk, rfl, HRr, HBr, HWr⟩ := hrel
    have hszr := HWr.out.size
    rcases Nat.lt_or_ge k 64 with hlt | hge
    · obtain ⟨⟨c, hc⟩, hf⟩ := HBr.out.byteAt k (by unfold fl1; simp; omega)
      have HB1 := Lib.hid (HBr.out.byte k (b : Int))
      rw [fl1_next b k hlt] at HB1
      have HR1 : Hid (Blk (wr.setCell ⟨w.heap.size + 1, k, none⟩ (.int .u8 (b : Int))) w.heap.size 80 z64) := Lib.hid (HRr.out.far (by simp) _)
      have HW1 : Hid (Below w.heap.size w (wr.setCell ⟨w.heap.size + 1, k, none⟩ (.int .u8 (b : Int)))) := Lib.hid (HWr.out.setCell (by simp) _)
      have hi0 : (0 : Int) ≤ k := by omega
      have hi1 : (k : Int) < 64 := by omega
      go_wp2_with fail
      exact ⟨⟨k + 1, by omega, by go_num, HR1, HB1, HW1⟩, by simp [intOf]; omega⟩
    · obtain rfl : k = 64 := by omega
      have hfin : fl1 b 64 = fillL b := by unfold fl1 fillL; simp
      rw [hfin] at HBr
      have hr5 := HBr.out.range
      rw [List.toList_toArray] at hr5
      have hrl : (u8s (fillL b)).length = 64 := by rw [u8s_length, (fillL_sec b hb).1]
      have HRL := Lib.hid hrl
      have hzs : z64.size = (u8s (fillL b)).toArray.size := by rw [z64_size, List.size_toArray, hrl]
      have h1 := u8s_one (fillL b)
      have hi64 : (Try.prog.info? 80).map (·.size) = some (u8s (fillL b)).toArray.size := by rw [List.size_toArray, hrl]; kernel_rfl
      clear hrl
      go_wp2_with (first
        | (refine ld 80 _ rfl rfl rfl hr5 Try.underlying80 rfl (by rw [HRL.out]; kernel_rfl) ?_)
        | (refine stBlk 80 (.tmp 2) (.tmp 12) rfl rfl rfl rfl HRr.out hi64 hzs h1 ?_; intro w6 hB6 hb6 _ _; have HB6 := Lib.hid hB6; have HE6 := Lib.hid hb6; clear hB6 hb6))
      refine bodyPost_ret (results_cell_row rfl _ _ w.heap.size 80 _ (0, 0) _ rfl HB6.out Try.underlying80 rfl hi64) rfl ⟨rfl, ?_⟩
      exact HWr.out.trans (HE6.out.mono (by omega))
end Go.Proofs.Ytpkcddnclifcpaa
namespace Go.Proofs.Ytpkcddnclifcpaa
open Go.RowKit
attribute [local irreducible] wpQuiet wpAnyH
set_option linter.unusedSimpArgs false

theorem op_at {w : World} {A : Option Addr} {cap : Nat} {l : List Op18} (h : Sn w 40 (.slice A l.length cap) l.length (l.flatMap opC18)) (hok : ∀ o ∈ l, (opC18 o).length = 40) (k : Nat) (hk : k < l.length) :
    ∃ b off, A = some ⟨b, off, none⟩ ∧ w.rangeAt b (off + k * 40) (opC18 l[k]) := by
  obtain ⟨A', cap', hv, _, _, hx⟩ := h
  injection hv with hv _ _
  obtain ⟨b, off, he, hc⟩ := hx (by omega)
  refine ⟨b, off, hv.trans he, fun i u hi => ?_⟩
  have hi40 : i < 40 := by have := (List.getElem?_eq_some_iff.1 hi).1; rw [hok _ (List.getElem_mem hk)] at this; exact this
  have hp := flatMap_pieceM opC18 40 l hok k hk
  have : (l.flatMap opC18)[k * 40 + i]? = some u := by
    rw [← hi, ← hp, List.getElem?_take_of_lt hi40, List.getElem?_drop]
  have := hc (k * 40 + i) u this
  rw [show off + k * 40 + i = off + (k * 40 + i) by omega]
  exact this
set_option maxRecDepth 100000 in
set_option maxHeartbeats 4000000 in
theorem few18 (A : Option Addr) (cap : Nat) (l : List Op18) (w : World) (hs : Sn w 40 (.slice A l.length cap) l.length (l.flatMap opC18)) (hok : ∀ o ∈ l, Op18Ok w o) (hl : l.length ≤ 9223372036854775807) :
    Calls Try.prog 23 #[.slice A l.length cap] w fun e w' => ∃ b : Bool, e = .returned (.bool b) ∧ Below w.heap.size w w' ∧ (b = true → l.length ≤ 40 ∧ ∀ o ∈ l, Few18 o) := by
  have HS := Lib.hid hs
  have HOK := Lib.hid hok
  clear hs hok
  have hll : (l.length : Int) ≤ 9223372036854775807 := by omega
  go_enter Try.func23, Try.ntmps23
  go_wp2_with fail
  go_loopw [3] (fun i wr => ∃ k : Nat, k ≤ l.length ∧ i = .int .i64 (k : Int) ∧ Hid (∀ o ∈ l.take k, Few18 o) ∧ wr = w) (fun i _ => l.length - (intOf i).toNat)
  case atStart => exact ⟨0, Nat.zero_le _, rfl, Lib.hid (fun o ho => by simp at ho), rfl⟩
  case round =>
    obtain ⟨k, hk, rfl, HF, hw⟩ := hrel
    rw [hw]
    clear hw
    rcases Nat.lt_or_ge k l.length with hlt | hge
    · obtain ⟨b, off, hA, hr⟩ := op_at HS.out (fun o ho => opC18_length o (HOK.out o ho)) k hlt
      subst hA
      have ho := HOK.out _ (List.getElem_mem hlt)
      have HN : Hid (Few18 l[k] → ∀ o ∈ l.take (k + 1), Few18 o) := Lib.hid (fun h o ho => by
        rw [List.take_succ_eq_append_getElem hlt] at ho
        rcases List.mem_append.1 ho with ho | ho
        · exact HF.out o ho
        · rw [List.mem_singleton.1 ho]; exact h)
      obtain ⟨o, hoe⟩ : ∃ o, o = l[k] := ⟨_, rfl⟩
      rw [← hoe] at hr ho HN
      clear hoe
      obtain ⟨Am, cm, em⟩ := ho.more.slc
      obtain ⟨Ac, cc, ec⟩ := ho.cuts.slc
      have hE := entP_length o.ent ho.ent
      have c1 : w.cell? ⟨b, off + k * 40 + 1, none⟩ = some (.int .i64 o.pos) := hr 1 _ rfl
      have c5 : w.cell? ⟨b, off + k * 40 + 37, none⟩ = some (.slice Am o.more.length cm) := hr 37 _ (by
        unfold opC18
        rw [List.getElem?_append_right (by simp), List.getElem?_append_right (by simp; omega), em]
        simp [hE])
      have c7 : w.cell? ⟨b, off + k * 40 + 39, none⟩ = some (.slice Ac o.cuts.length cc) := hr 39 _ (by
        unfold opC18
        rw [List.getElem?_append_right (by simp), List.getElem?_append_right (by simp; omega), ec]
        simp [hE])
      have p1 : -9223372036854775808 ≤ o.pos := ho.pos.1
      have p2 : o.pos ≤ 9223372036854775807 := ho.pos.2
      have hi0 : (0 : Int) ≤ k := by omega
      have hi1 : (k : Int) < l.length := by omega
      clear hr ho em ec
      rcases Bool.eq_false_or_eq_true (decide ((20 : Int) < (o.cuts.length : Int))) with t1 | t1
      · go_wp2_with fail
        go_ret
        exact ⟨false, rfl, Below.refl _ _, fun h => by cases h⟩
      · rcases Bool.eq_false_or_eq_true (decide ((20 : Int) < (o.more.length : Int))) with t2 | t2
        · go_wp2_with fail
          go_ret
          exact ⟨false, rfl, Below.refl _ _, fun h => by cases h⟩
        · rcases Bool.eq_false_or_eq_true (decide ((1048576 : Int) < o.pos)) with t3 | t3
          · go_wp2_with fail
            go_ret
            exact ⟨false, rfl, Below.refl _ _, fun h => by cases h⟩
          · rcases Bool.eq_false_or_eq_true (decide (o.pos < -1048576)) with t4 | t4
            · go_wp2_with fail
              go_ret
              exact ⟨false, rfl, Below.refl _ _, fun h => by cases h⟩
            · have HN2 := Lib.hid (HN.out ⟨by have := of_decide_eq_false t1; omega, by have := of_decide_eq_false t2; omega, by have := of_decide_eq_false t4; omega, by have := of_decide_eq_false t3; omega⟩)
              go_wp2_with fail
              exact ⟨⟨k + 1, by omega, by go_num, HN2, trivial⟩, by simp [intOf]; omega⟩
    · obtain rfl : k = l.length := by omega
      rw [List.take_length] at HF
      go_wp2_with fail
      go_ret
      exact ⟨decide ((l.length : Int) ≤ 40), rfl, Below.refl _ _, fun h => ⟨by have := of_decide_eq_true h; omega, HF.out⟩⟩
end Go.Proofs.Ytpkcddnclifcpaa
namespace Go.Proofs.Ytpkcddnclifcpaa
open Go.RowKit
attribute [local irreducible] wpQuiet wpAnyH
set_option linter.unusedSimpArgs false

/-- Inside play: both disks, and the boxes: the reference's disk, the operation, the result, the slot. -/
structure PX (w0 w wx : World) (m0 m : DiskM) (d : DiskD) (mr0 : RM) (r0 : RefD) (mr : RM) (r : RefD) (mb : RM) (rb : RefD) (o : Op18) (F : Int) : Prop where
  pb : PB w0 wx m d mr r
  dt : DT w m0 wx m
  sub : ∀ b ∈ rowsOf mr r, b ∈ rowsOf mr0 r0 ∨ w.heap.size + 4 ≤ b
  bd : Blk wx w.heap.size 48 (refC mb rb)
  bo : Blk wx (w.heap.size + 1) 67 (opC18 o).toArray
  bz : Blk wx (w.heap.size + 2) 48 refZ
  bs : Blk wx (w.heap.size + 3) 30 #[.int .i64 F, .int .i64 5]
  ap : ∀ i, i < 4 → Apart m (w.heap.size + i)
  h0 : w0.heap.size ≤ w.heap.size
  bl : ∀ b ∈ rowsOf mr0 r0, b < w.heap.size
section
variable {w0 w wx wy : World} {m0 m m' : DiskM} {d d' : DiskD} {mr0 mr mr' mb : RM} {r0 r r' rb : RefD} {o : Op18} {F : Int}
theorem PX.keep (h : PX w0 w wx m0 m d mr0 r0 mr r mb rb o F) (hb : Below wx.heap.size wx wy) : PX w0 w wy m0 m d mr0 r0 mr r mb rb o F :=
  ⟨h.pb.keep hb, h.dt.trans (DT.of_below hb), h.sub, h.bd.keep hb, h.bo.keep hb, h.bz.keep hb, h.bs.keep hb, h.ap, h.h0, h.bl⟩
theorem PX.disk (h : PX w0 w wx m0 m d mr0 r0 mr r mb rb o F) (hk : DK wy m' d') (ht : DT wx m wy m') : PX w0 w wy m0 m' d' mr0 r0 mr r mb rb o F :=
  have f : ∀ {i : Nat} {t : TypeId} {cs : Array Value}, i < 4 → Blk wx (w.heap.size + i) t cs → Blk wy (w.heap.size + i) t cs := fun hi hB => (ht.off hB.lt (h.ap _ hi).1).trans hB
  ⟨h.pb.disk hk ht, h.dt.trans ht, h.sub, f (i := 0) (by omega) h.bd, f (i := 1) (by omega) h.bo, f (i := 2) (by omega) h.bz, f (i := 3) (by omega) h.bs, fun i hi => (h.ap i hi).next (by
    have h1 := h.bd.lt; have h2 := h.bo.lt; have h3 := h.bz.lt; have h4 := h.bs.lt
    omega) ht, h.h0, h.bl⟩
theorem PX.ref (h : PX w0 w wx m0 m d mr0 r0 mr r mb rb o F) (hb : Below wx.heap.size wx wy) (hk : RK wy mr' r') (hs : ∀ b ∈ rowsOf mr' r', b ∈ rowsOf mr r ∨ wx.heap.size ≤ b) : PX w0 w wy m0 m d mr0 r0 mr' r' mb rb o F :=
  ⟨h.pb.ref hb hk hs, h.dt.trans (DT.of_below hb), fun b hm => by
    rcases hs b hm with h1 | h1
    · exact h.sub b h1
    · have := h.bs.lt; exact .inr (by omega), h.bd.keep hb, h.bo.keep hb, h.bz.keep hb, h.bs.keep hb, h.ap, h.h0, h.bl⟩
theorem PX.not (h : PX w0 w wx m0 m d mr0 r0 mr r mb rb o F) (i : Nat) (hi : i < 4) : w.heap.size + i ∉ rowsOf mr r := fun hm => by
  rcases h.sub _ hm with h1 | h1
  · have := h.bl _ h1; omega
  · omega
/-- Something is stored into one of the boxes. -/
theorem PX.pbK (h : PX w0 w wx m0 m d mr0 r0 mr r mb rb o F) (i : Nat) (hi : i < 4) (hb : Below (w.heap.size + i) wx wy) (ho : ∀ k, k ≠ w.heap.size + i → wy.heap[k]? = wx.heap[k]?) : PB w0 wy m d mr r ∧ DT w m0 wy m :=
  ⟨h.pb.offK hb ho (h.ap i hi) (h.not i hi) (by have := h.h0; omega), ⟨h.dt.g, ⟨hb.os.trans h.dt.fo.os, hb.tape.trans h.dt.fo.tape, hb.output.trans h.dt.fo.output, Nat.le_trans h.dt.fo.size hb.size, fun k hk hn => (ho k (by omega)).trans (h.dt.fo.block k hk hn)⟩, h.dt.sub, h.dt.cv⟩⟩
/-- The reference's disk is stored into its box. -/
theorem PX.box (h : PX w0 w wx m0 m d mr0 r0 mr r mb rb o F) (hB : Blk wy w.heap.size 48 (refC mr r)) (hb : Below w.heap.size wx wy) (ho : ∀ k, k ≠ w.heap.size → wy.heap[k]? = wx.heap[k]?) : PX w0 w wy m0 m d mr0 r0 mr r mr r o F :=
  have p := h.pbK 0 (by omega) hb ho
  ⟨p.1, p.2, h.sub, hB, (ho _ (by omega)).trans h.bo, (ho _ (by omega)).trans h.bz, (ho _ (by omega)).trans h.bs, h.ap, h.h0, h.bl⟩
end
/-- What the hand walks hold: the boxes. -/
def BX (w wx : World) (mb : RM) (rb : RefD) (o : Op18) (F : Int) : Prop := Blk wx w.heap.size 48 (refC mb rb) ∧ Blk wx (w.heap.size + 1) 67 (opC18 o).toArray ∧ Blk wx (w.heap.size + 3) 30 #[.int .i64 F, .int .i64 5]
theorem PX.bx {w0 w wx : World} {m0 m : DiskM} {d : DiskD} {mr0 mr mb : RM} {r0 r rb : RefD} {o : Op18} {F : Int} (h : PX w0 w wx m0 m d mr0 r0 mr r mb rb o F) : BX w wx mb rb o F := ⟨h.bd, h.bo, h.bs⟩
theorem BX.sl {w wx : World} {mb : RM} {rb : RefD} {o : Op18} {F : Int} (h : BX w wx mb rb o F) : wx.rangeAt (w.heap.size + 3) 0 [.int .i64 F, .int .i64 5] := by
  have := h.2.2.range
  rw [List.toList_toArray] at this
  exact this
theorem BX.offZ {w wx wy : World} {mb : RM} {rb : RefD} {o : Op18} {F : Int} (h : BX w wx mb rb o F) (ho : ∀ k, k ≠ w.heap.size + 2 → wy.heap[k]? = wx.heap[k]?) : BX w wy mb rb o F :=
  ⟨(ho _ (by omega)).trans h.1, (ho _ (by omega)).trans h.2.1, (ho _ (by omega)).trans h.2.2⟩
theorem slI : (Try.prog.info? 30).map (·.size) = some [Value.int .i64 0, .int .i64 5].length := by kernel_rfl
end Go.Proofs.Ytpkcddnclifcpaa
