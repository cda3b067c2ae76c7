/- Parts: frame.ParseEntry. | tollref01.Spread, tollref17.Number. | tollref10.Update, Sum: bit by bit. | slot.Commit, slot.Put. | slot.Put. -/
import Derived.Test.YtpkcddnclifcpaaMF9
import Derived.Test.YtpkcddnclifcpaaMF8
import Derived.Test.YtpkcddnclifcpaaMF4
import Derived.Laws.Shifts
import Derived.Test.YtpkcddnclifcpaaMF1
namespace Go.Proofs.Ytpkcddnclifcpaa
open Go.RowKit
attribute [local irreducible] wpQuiet wpAnyH
set_option linter.unusedSimpArgs false

def zE : Array Value := (entP (List.replicate 32 0, 0)).toArray
theorem zeroE : ∀ w, (zeroValue 26).run Try.prog w = .ok (.agg zE) w := fun w => by unfold zE; kernel_rfl
theorem builtE : Try.prog.built 26 [] = some zE := by unfold zE; kernel_rfl
theorem zE_size : zE.size = 33 := by simp [zE, entP, entC, u8s]
theorem zE_one : zE.all (·.oneCell') = true := entC_one _ _
/-- The generation and the entry of an entry's record, if it is one. -/
def prsE (s : List Int) : Option (Nat × (List Int × Int)) := match prs s with
  | none => none
  | some (g, p) => if p.length = 40 ∧ beN (p.drop 32) ≤ 4611686018427387904 then some (g, (p.take 32, (beN (p.drop 32) : Int))) else none

theorem prs_len {s : List Int} {g : Nat} {p : List Int} (h : prs s = some (g, p)) : p.length ≤ 54 := by
  unfold prs at h
  split at h
  · cases h
  · rename_i hn
    split at h
    · cases h
    · split at h
      · cases h
      · injection h with h
        injection h with _ h
        rw [← h, List.length_take]
        omega
theorem results_cellR_mid {P : Program} {w : World} {fn : Func} {p u x : Tmp} {ty : TypeId} (h : fn.results = #[.tmp u, .cell p ty, .tmp x]) (tmps : Array Value) {b off : Nat} {cs : List Value} {d : TypeDesc} (hp : tmps.getD p undef = .pointer (some ⟨b, off, none⟩)) (hc : w.rangeAt b off cs)
    (hu : P.underlying ty = some d) (hd : d.isRow = true) (hi : (P.info? ty).map (·.size) = some cs.length) : (results fn tmps).run P w = .ok (.tuple #[tmps.getD u undef, .agg cs.toArray, tmps.getD x undef]) w := by
  have h1 : tmps[p]?.getD undef = .pointer (some ⟨b, off, none⟩) := by simpa using hp
  simp [results, h, h1, asAddr, Sem.run_bind, Result.andThen, run_loadVar_mid w b off ty cs d hc hu hd hi]

theorem rd_take32 (r : Nat) (v : Value) (p : List Int) (w : World) (h : RD w r v p false) (hl : p.length ≤ 1000000) :
    Calls Try.prog 69 #[.pointer (some ⟨r, 0, none⟩), .int .i64 32] w fun e w' => Off r w w' ∧ ∃ x v' xs ys bad, e = .returned x ∧ xs.length ≤ 32 ∧ Sn w' 1 x xs.length (u8s xs) ∧ RD w' r v' ys bad ∧ (∀ b, v'.ownBlock = some b → v.ownBlock = some b) ∧
      ((bad = false ∧ 32 ≤ p.length ∧ xs = p.take 32 ∧ ys = p.drop 32) ∨ (bad = true ∧ p.length < 32 ∧ xs = [] ∧ ys = [])) := by
  refine (rd_TakeF r v p false 32 w h hl (by omega)).mono ?_
  rintro e w1 ⟨ho, ⟨_, h32, x, v', rfl, hs, hR, hob⟩ | ⟨hbad, rfl, hR⟩⟩
  · have hlen : (p.take 32).length = 32 := by rw [List.length_take]; omega
    exact ⟨ho, x, v', p.take 32, p.drop 32, false, rfl, by omega, by rw [hlen]; exact hs, hR, hob, .inl ⟨rfl, h32, rfl, rfl⟩⟩
  · refine ⟨ho, _, _, [], [], true, rfl, by simp, ⟨none, 0, rfl, Nat.le_refl _, rfl, fun h => absurd h (by simp)⟩, hR, (fun b e => by cases e), .inr ⟨rfl, ?_, rfl, rfl⟩⟩
    rcases hbad with h | h
    · cases h
    · exact h
theorem rd_num8 (r : Nat) (v : Value) (ys : List Int) (bad : Bool) (w : World) (h : RD w r v ys bad) (hb : Bys ys) (hl : ys.length ≤ 1000000) :
    Calls Try.prog 70 #[.pointer (some ⟨r, 0, none⟩), .int .i64 8] w fun e w' => Off r w w' ∧ ∃ (N : Nat) (v' : Value) (zs : List Int) (bad' : Bool), e = .returned (.int .u64 N) ∧ N < 18446744073709551616 ∧ RD w' r v' zs bad' ∧
      ((bad = false ∧ 8 ≤ ys.length ∧ bad' = false ∧ N = beN (ys.take 8) ∧ zs = ys.drop 8) ∨ ((bad = true ∨ ys.length < 8) ∧ bad' = true)) := by
  refine (rd_Number r v ys bad 8 w h hb hl (by omega) (by omega)).mono ?_
  rintro e w1 ⟨ho, ⟨hbad, h8, v', rfl, hR⟩ | ⟨hbad, rfl, hR⟩⟩
  · refine ⟨ho, _, v', _, false, rfl, ?_, hR, .inl ⟨hbad, h8, rfl, rfl, rfl⟩⟩
    have := beN_lt (ys.take 8) (fun b hb' => hb b (List.mem_of_mem_take hb'))
    rw [List.length_take, Nat.min_eq_left h8] at this
    exact this
  · exact ⟨ho, 0, _, _, true, rfl, by omega, hR, .inr ⟨hbad, rfl⟩⟩
/-- The block of an entry behind the copy of a digest. -/
def copE (xs : List Int) : Array Value := ((u8s xs).zipIdx 0).foldl (fun (cs : Array Value) (x : Value × Nat) => cs.setIfInBounds x.2 x.1) zE
theorem copE_size (xs : List Int) : (copE xs).size = 33 := by
  have key : ∀ (l : List (Value × Nat)) (cs : Array Value), (l.foldl (fun (cs : Array Value) (x : Value × Nat) => cs.setIfInBounds x.2 x.1) cs).size = cs.size := by
    intro l
    induction l with
    | nil => intro cs; rfl
    | cons x l ih => intro cs; rw [List.foldl_cons, ih, Array.size_setIfInBounds]
  unfold copE
  rw [key, zE_size]
theorem copE_set (xs : List Int) (t : Int) (h : xs.length = 32) : (copE xs).setIfInBounds 32 (.int .i64 t) = (entC xs t).toArray := build_ent xs t h zE zE_size
theorem RD.off {w w' : World} {r g : Nat} {v : Value} {xs : List Int} {bad : Bool} (h : RD w r v xs bad) (ho : Off g w w') (hr : r ≠ g) (hv : ∀ b, v.ownBlock = some b → b ≠ g) : RD w' r v xs bad := by
  refine ⟨ho.blk h.1 hr, ?_⟩
  obtain ⟨A, cap, rfl, hc, hl, hx⟩ := h.2
  refine ⟨A, cap, rfl, hc, hl, fun hp => ?_⟩
  obtain ⟨b, off, rfl, hcell⟩ := hx hp
  exact ⟨b, off, rfl, fun j u hj => ho.cell (hcell j u hj) (hv b rfl)⟩

set_option maxRecDepth 100000 in
set_option maxHeartbeats 2000000 in
theorem frame_parse_entry (s : List Int) (w : World) (hl : s.length = 64) (hb : Bys s) :
    Calls Try.prog 40 #[.agg (u8s s).toArray] w fun e w' => Below w.heap.size w w' ∧
      ((prsE s = none ∧ e = .returned (.tuple #[.int .u32 0, .agg zE, .bool false])) ∨ (∃ g q, prsE s = some (g, q) ∧ e = .returned (.tuple #[.int .u32 g, .agg (entP q).toArray, .bool true]))) := by
  have hul : (u8s s).length = 64 := by rw [u8s_length, hl]
  have HZ : Hid ((Try.prog.info? 26).map (·.size) = some zE.size ∧ zE.all (·.oneCell') = true) := Lib.hid ⟨by rw [zE_size]; kernel_rfl, zE_one⟩
  obtain ⟨wa, hwa⟩ : ∃ wa, wa = w.alloc (.cells (u8s s).toArray 80) := ⟨_, rfl⟩
  obtain ⟨gE, hgE⟩ : ∃ g, g = wa.heap.size := ⟨_, rfl⟩
  obtain ⟨w1, hw1⟩ : ∃ w1, w1 = wa.alloc (.cells zE 26) := ⟨_, rfl⟩
  have hB1 : Blk w1 w.heap.size 80 (u8s s).toArray := by rw [hw1, hwa]; exact (Blk.new _ _ _).alloc _
  have hr1 := hB1.range
  rw [List.toList_toArray] at hr1
  have HR1 := Lib.hid hr1
  have HBE : Hid (Blk w1 gE 26 zE) := Lib.hid (by rw [hw1, hgE]; exact Blk.new _ _ _)
  have HB1 : Hid (Below w.heap.size w w1) := Lib.hid (by rw [hw1, hwa]; exact ((Below.refl _ w).alloc (Nat.le_refl _) _).alloc (by simp) _)
  have HGE : Hid (w.heap.size ≤ gE) := Lib.hid (by rw [hgE, hwa]; simp)
  clear hB1 hr1
  go_enter Try.func40, Try.ntmps40
  go_upto_region 1 with (refine al 26 zE rfl rfl zeroE ?_)
  rw [← hwa, ← hw1, show w.heap.size + 1 = gE by rw [hgE, hwa]; simp]
  clear hwa hw1 hgE
  go_wp2_with (refine ld 80 _ rfl rfl rfl HR1.out Try.underlying80 rfl (by rw [hul]; kernel_rfl) ?_)
  refine (frame_parse s w1 hl hb).mono ?_
  rintro e w2 ⟨hb2, ⟨hn, rfl⟩ | ⟨g, p, v, hp, rfl, hs⟩⟩
  · have HE2 := Lib.hid (HBE.out.keep hb2)
    have HB2 : Hid (Below w.heap.size w w2) := Lib.hid (bstep HB1.out hb2)
    have HN : Hid (prsE s = none) := Lib.hid (by unfold prsE; rw [hn])
    clear hn hb2
    go_wp2_with (first
      | (refine bld 26 #[] rfl rfl rfl builtE ?_)
      | (refine stBlk 26 (.tmp 3) (.tmp 19) rfl rfl rfl rfl HE2.out HZ.out.1 rfl HZ.out.2 ?_; intro w3 hB3 hb3 _ _; have HB3 := Lib.hid hB3; have HE3 := Lib.hid hb3; clear hB3 hb3))
    have hr := HB3.out.range
    exact bodyPost_ret (results_cellR_mid rfl _ rfl hr Try.underlying26 rfl (by rw [Array.length_toList]; exact HZ.out.1)) rfl ⟨HB2.out.trans (HE3.out.mono HGE.out), .inl ⟨HN.out, rfl⟩⟩
  · obtain ⟨gT, hgT⟩ : ∃ g, g = w2.heap.size := ⟨_, rfl⟩
    obtain ⟨w3, hw3⟩ : ∃ w3, w3 = w2.alloc (.cells zE 26) := ⟨_, rfl⟩
    have HB3 : Hid (Below w.heap.size w w3) := Lib.hid (by rw [hw3]; exact (bstep HB1.out hb2).alloc (bstep HB1.out hb2).size _)
    have HE3 : Hid (Blk w3 gE 26 zE) := Lib.hid (by rw [hw3]; exact (HBE.out.keep hb2).alloc _)
    have HT3 : Hid (Blk w3 gT 26 zE) := Lib.hid (by rw [hw3, hgT]; exact Blk.new _ _ _)
    have HS3 : Hid (Sn w3 1 v p.length (u8s p)) := Lib.hid (by rw [hw3]; exact hs.alloc _)
    have hlt : gE < gT := by have h1 := HBE.out.lt; have h2 := hb2.size; omega
    have hTs : gT < w3.heap.size := HT3.out.lt
    have HP := Lib.hid hp
    have HPB := Lib.hid (prs_bys hb hp)
    have hpl : p.length ≤ 54 := prs_len hp
    clear hp hs hb2
    go_upto_region 5 with (refine al 26 zE rfl rfl zeroE ?_)
    rw [← hw3, ← hgT]
    clear hw3 hgT
    go_wp2_with fail
    refine (wire_newF _ p w3 HS3.out (by omega)).mono ?_
    rintro e w4 ⟨r, v4, rfl, hR4, hfr, hr4, hb4⟩
    have HB4 : Hid (Below w.heap.size w w4.drew) := Lib.hid (bstep HB3.out hb4).drew
    have HE4 : Hid (Blk w4.drew gE 26 zE) := Lib.hid (HE3.out.keep hb4.drew)
    have HT4 : Hid (Blk w4.drew gT 26 zE) := Lib.hid (HT3.out.keep hb4.drew)
    have HR4 : Hid (RD w4.drew r v4 p false) := Lib.hid hR4
    have HFR := Lib.hid hfr
    have hTr : gT < r := by omega
    have HSZ := Lib.hid hb4.size
    clear hR4 hfr hr4 hb4
    go_upto_region 6 with fail
    refine held_start 5 (fun _ => True) (by kernel_rfl) (by kernel_rfl) (trivial) (fun hHeld => ?_)
    refine hTake 0 (Op.fieldAddr 26 (Operand.tmp 8) 0) (some 22) (.pointer (some ⟨gT, 0, none⟩)) (by kernel_rfl) (by kernel_rfl) (by kernel_rfl) (by kernel_rfl) (by kernel_rfl) (fun _ _ _ h => h) (fun o ho wX hX => by unfold execOp; simp only [ho]; go_simp) hHeld ?_
    simp only [Act.put, List.setIfInBounds_toArray, List.set_cons_zero, List.set_cons_succ]
    refine hTake 1 (Op.slice 24 (Operand.tmp 22) none none none) (some 23) (.slice (some ⟨gT, 0, none⟩) 32 32) (by kernel_rfl) (by kernel_rfl) (by kernel_rfl) (by kernel_rfl) (by kernel_rfl) (fun _ _ _ h => h) (fun o ho wX hX => by unfold execOp; simp only [ho]; go_simp) hHeld ?_
    simp only [Act.put, List.setIfInBounds_toArray, List.set_cons_zero, List.set_cons_succ]
    refine hMove 2 (Operand.tmp 9) (some 24) (.pointer (some ⟨r, 0, none⟩)) (by kernel_rfl) (by kernel_rfl) (by kernel_rfl) (by kernel_rfl) (by kernel_rfl) (fun _ _ _ h => h) (by exact rfl) hHeld ?_
    simp only [Act.put, List.setIfInBounds_toArray, List.set_cons_zero, List.set_cons_succ]
    refine wpAnyH_ready (rs := [3]) (by kernel_rfl) (by simp) ?_
    refine rCall 3 (Op.call { callee := Callee.value (Operand.func 69), args := #[Operand.tmp 24, Operand.const (Value.int IntKind.i64 32)], argTypes := #[138, 3] }) (some 25) 69 (#[.pointer (some ⟨r, 0, none⟩), .int .i64 32]) (by kernel_rfl) (by kernel_rfl) (fun o ho => by unfold execOp; simp only [ho]; go_simp) ?_ AllReadyH.nil
    refine (rd_take32 r v4 p w4.drew HR4.out (by omega)).mono ?_
    rintro e w5 ⟨ho5, x, v5, xs, ys, bad, rfl, hxl, hsx, hR5, hob, hcs⟩
    have HB5 : Hid (Below w.heap.size w w5) := Lib.hid (HB4.out.trans (ho5.below (by have := HGE.out; omega) HB4.out.size))
    have HE5 : Hid (Blk w5 gE 26 zE) := Lib.hid (ho5.blk HE4.out (by omega))
    have HT5 : Hid (Blk w5 gT 26 zE) := Lib.hid (ho5.blk HT4.out (by omega))
    have HR5 := Lib.hid hR5
    have HOB := Lib.hid hob
    have HCS := Lib.hid hcs
    have HSX := Lib.hid hsx
    have HTH5 : Hid (w5.there gT 0 xs.length) := Lib.hid (there_blk HT5.out (by rw [zE_size]; omega))
    clear hR5 hob hcs hsx ho5
    refine ⟨_, rfl, trivial, fun hHeld => ?_⟩
    simp only [Act.put, List.setIfInBounds_toArray, List.set_cons_zero, List.set_cons_succ]
    refine wpAnyH_ready (rs := [4]) (by kernel_rfl) (by simp) ?_
    refine rCopy 4 (dT := 88) (sT := 88) (elem := 5) (.tmp 23) (.tmp 25) (some 26) (by kernel_rfl) (by kernel_rfl) (by exact rfl) (by exact rfl) Try.underlying88 (by kernel_rfl) HSX.out hxl HTH5.out (u8s_mem _) trivial ?_ AllReadyH.nil
    simp only [Act.put, List.setIfInBounds_toArray, List.set_cons_zero, List.set_cons_succ]
    refine wpAnyH_done (by kernel_rfl) ?_ _
    clear hHeld
    have HB6 : Hid (Below w.heap.size w (w5.setCells gT 0 (u8s xs))) := Lib.hid (HB5.out.trans (setCells_below (by have := HGE.out; omega) _ _ _).1)
    obtain ⟨w6, hw6⟩ : ∃ w6, w6 = w5.setCells gT 0 (u8s xs) := ⟨_, rfl⟩
    have HE6 : Hid (Blk w6 gE 26 zE) := Lib.hid (by rw [hw6]; exact (setCells_off gT _ 0 w5).blk HE5.out (by omega))
    have HT6 : Hid (Blk w6 gT 26 (copE xs)) := Lib.hid (by rw [hw6]; exact setCells_blk _ _ _ _ HT5.out)
    have HR6 : Hid (RD w6 r v5 ys bad) := Lib.hid (by rw [hw6]; exact HR5.out.off (setCells_off gT _ 0 w5) (by omega) (fun b e => by have := HFR.out b (HOB.out b e); omega))
    rw [← hw6] at HB6 ⊢
    have HYB : Hid (Bys ys) := Lib.hid (by
      rcases HCS.out with ⟨_, _, _, e⟩ | ⟨_, _, _, e⟩
      · rw [e]; exact fun b hb => HPB.out b (List.mem_of_mem_drop hb)
      · rw [e]; exact fun b hb => by cases hb)
    have hyl : ys.length ≤ 1000000 := by
      rcases HCS.out with ⟨_, _, _, e⟩ | ⟨_, _, _, e⟩
      · rw [e, List.length_drop]; omega
      · rw [e]; simp
    clear hw6
    go_wp2_with fail
    refine (rd_num8 r v5 ys bad w6 HR6.out HYB.out hyl).mono ?_
    rintro e w7 ⟨ho7, N, v7, zs, bad7, rfl, hN, hR7, hcs7⟩
    have HB7 : Hid (Below w.heap.size w w7) := Lib.hid (HB6.out.trans (ho7.below (by have := HGE.out; omega) HB6.out.size))
    have HE7 : Hid (Blk w7 gE 26 zE) := Lib.hid (ho7.blk HE6.out (by omega))
    have HT7 : Hid (Blk w7 gT 26 (copE xs)) := Lib.hid (ho7.blk HT6.out (by omega))
    have HR7 := Lib.hid hR7
    have HC7 := Lib.hid hcs7
    clear ho7 hR7 hcs7
    go_wp2_with fail
    refine (rd_Done r v7 zs bad7 w7 HR7.out).mono ?_
    rintro e w8 ⟨rfl, rfl⟩
    obtain ⟨D, hD⟩ : ∃ D, D = (!bad7 && decide (zs.length = 0)) := ⟨_, rfl⟩
    rw [← hD]
    have HD := Lib.hid hD
    clear hD
    have HDT : Hid (D = true → xs = p.take 32 ∧ p.length = 40 ∧ N = beN (p.drop 32)) := Lib.hid (fun e => by
      have h := HD.out
      rw [e] at h
      have h1 : bad7 = false := by
        revert h
        cases bad7
        · intro _; rfl
        · intro h; simp at h
      have h2 : zs.length = 0 := by rw [h1] at h; simpa using h.symm
      rcases HC7.out with ⟨hb0, h8, _, hNv, hz⟩ | ⟨_, hb1⟩
      · rcases HCS.out with ⟨_, h32, hxs, hys⟩ | ⟨hb1, _⟩
        · rw [hz, hys, List.length_drop, List.length_drop] at h2
          rw [hys, List.length_drop] at h8
          refine ⟨hxs, by omega, ?_⟩
          rw [hNv, hys, List.take_of_length_le (by rw [List.length_drop]; omega)]
        · rw [hb0] at hb1; cases hb1
      · rw [h1] at hb1; cases hb1)
    have HDF : Hid (D = false → prsE s = none) := Lib.hid (fun e => by
      unfold prsE
      rw [HP.out]
      simp only
      rw [if_neg]
      rintro ⟨h40, _⟩
      have h := HD.out
      rw [e] at h
      rcases HCS.out with ⟨hb0, h32, hxs, hys⟩ | ⟨_, h32, _⟩
      · rcases HC7.out with ⟨_, h8, hb7, hNv, hz⟩ | ⟨hb1, _⟩
        · rw [hb7, hz, hys, List.length_drop, List.length_drop, h40] at h
          simp at h
        · rw [hb0, hys, List.length_drop, h40] at hb1
          simp at hb1
      · omega)
    clear HD HC7 HCS
    cases D with
    | false =>
      go_wp2_with (first
        | (refine bld 26 #[] rfl rfl rfl builtE ?_)
        | (refine stBlk 26 (.tmp 3) (.tmp 36) rfl rfl rfl rfl HE7.out HZ.out.1 rfl HZ.out.2 ?_; intro w9 hB9 hb9 _ _; have HB9 := Lib.hid hB9; have HE9 := Lib.hid hb9; clear hB9 hb9))
      have hr := HB9.out.range
      exact bodyPost_ret (results_cellR_mid rfl _ rfl hr Try.underlying26 rfl (by rw [Array.length_toList]; exact HZ.out.1)) rfl ⟨HB7.out.trans (HE9.out.mono HGE.out), .inl ⟨HDF.out (by simp), rfl⟩⟩
    | true =>
      rcases Bool.eq_false_or_eq_true (decide ((4611686018427387904 : Int) < (N : Int))) with t1 | t1
      · have HNN : Hid (prsE s = none) := Lib.hid (by
          unfold prsE
          rw [HP.out]
          simp only
          rw [if_neg]
          rintro ⟨_, h⟩
          have := of_decide_eq_true t1
          have := (HDT.out rfl).2.2
          omega)
        go_wp2_with (first
          | (refine bld 26 #[] rfl rfl rfl builtE ?_)
          | (refine stBlk 26 (.tmp 3) (.tmp 36) rfl rfl rfl rfl HE7.out HZ.out.1 rfl HZ.out.2 ?_; intro w9 hB9 hb9 _ _; have HB9 := Lib.hid hB9; have HE9 := Lib.hid hb9; clear hB9 hb9))
        have hr := HB9.out.range
        exact bodyPost_ret (results_cellR_mid rfl _ rfl hr Try.underlying26 rfl (by rw [Array.length_toList]; exact HZ.out.1)) rfl ⟨HB7.out.trans (HE9.out.mono HGE.out), .inl ⟨HNN.out, rfl⟩⟩
      · have hN62 : (N : Int) ≤ 4611686018427387904 := by have := of_decide_eq_false t1; omega
        have hN0 : (0 : Int) ≤ N := by omega
        have hcv : IntKind.i64.wrap (N : Int) = (N : Int) := IntWalk.i64_in _ (by omega)
        have HXL : Hid (xs.length = 32) := Lib.hid (by have := HDT.out rfl; rw [this.1, List.length_take]; omega)
        have HPE : Hid (prsE s = some (g, (xs, (N : Int)))) := Lib.hid (by
          have h := HDT.out rfl
          unfold prsE
          rw [HP.out]
          simp only
          rw [if_pos ⟨h.2.1, by rw [← h.2.2]; omega⟩, ← h.1, ← h.2.2])
        have hc32 : w7.cell? ⟨gT, 32, none⟩ = some ((copE xs)[32]'(by rw [copE_size]; omega)) := by rw [HT7.out.cell 32]; exact Array.getElem?_eq_getElem _
        have hf32 := HT7.out.frozen 32
        clear HDF
        go_upto_region 11 with fail
        have HB8 : Hid (Below w.heap.size w (w7.setCell ⟨gT, 32, none⟩ (.int .i64 (N : Int))).drew) := Lib.hid ((HB7.out.trans ((Off.refl gT w7).set 32 _ |>.below (by have := HGE.out; omega) HB7.out.size)).drew)
        have HE8 : Hid (Blk (w7.setCell ⟨gT, 32, none⟩ (.int .i64 (N : Int))).drew gE 26 zE) := Lib.hid (((Off.refl gT w7).set 32 _).blk HE7.out (by omega))
        have HT8 : Hid (Blk (w7.setCell ⟨gT, 32, none⟩ (.int .i64 (N : Int))).drew gT 26 (entC xs N).toArray) := Lib.hid (by have := HT7.out.set_ 32 (.int .i64 (N : Int)); rw [copE_set _ _ HXL.out] at this; exact this)
        obtain ⟨w8, hw8⟩ : ∃ w8, w8 = w7.setCell ⟨gT, 32, none⟩ (.int .i64 (N : Int)) := ⟨_, rfl⟩
        rw [← hw8] at HB8 HE8 HT8 ⊢
        have hEL : (entC xs (N : Int)).length = 33 := by simp [entC, u8s_length, HXL.out]
        have HEL : Hid ((Try.prog.info? 26).map (·.size) = some (entC xs (N : Int)).length) := Lib.hid (by rw [hEL]; kernel_rfl)
        have HE1 : Hid (∀ u ∈ entC xs (N : Int), u.oneCell' = true) := Lib.hid (fun u hu => by
          simp only [entC, List.mem_append, List.mem_singleton] at hu
          rcases hu with hu | rfl
          · exact u8s_mem _ u hu
          · rfl)
        have HTR : Hid (w8.drew.rangeAt gT 0 (entC xs (N : Int))) := Lib.hid (by have := HT8.out.range; rw [List.toList_toArray] at this; exact this)
        have HTH : Hid (w8.drew.there gE 0 (entC xs (N : Int)).length) := Lib.hid (there_blk HE8.out (by rw [hEL, zE_size]; exact Nat.le_refl _))
        have HTR2 : Hid ((w8.drew.setCells gE 0 (entC xs (N : Int))).rangeAt gT 0 (entC xs (N : Int))) := Lib.hid (fun i u hi => (World.cell?_of_block (a := ⟨gT, 0 + i, none⟩) (setCells_other (show gT ≠ gE by omega) _ _ _)).trans (HTR.out i u hi))
        clear hw8 hc32 hf32 hEL
        refine held_start 5 (fun w' => w'.rangeAt gT 0 (entC xs (N : Int))) (by kernel_rfl) (by kernel_rfl) (HTR.out) (fun hHeld => ?_)
        refine hMove 0 (Operand.tmp 5) (some 40) (.int .u32 g) (by kernel_rfl) (by kernel_rfl) (by kernel_rfl) (by kernel_rfl) (by kernel_rfl) (fun _ _ _ h => h) (by exact rfl) hHeld ?_
        simp only [Act.put, List.setIfInBounds_toArray, List.set_cons_zero, List.set_cons_succ]
        refine hLoad 1 26 (Operand.tmp 8) (some 41) (cs := entC xs (N : Int)) (by kernel_rfl) (by kernel_rfl) (by kernel_rfl) (by kernel_rfl) (by kernel_rfl) (fun _ _ _ h => h) (by exact rfl) (fun _ hX => hX) Try.underlying26 rfl HEL.out hHeld ?_
        simp only [Act.put, List.setIfInBounds_toArray, List.set_cons_zero, List.set_cons_succ]
        refine hTake 2 (Op.assign (Operand.tmp 40)) (some 2) (.int .u32 g) (by kernel_rfl) (by kernel_rfl) (by kernel_rfl) (by kernel_rfl) (by kernel_rfl) (fun _ _ _ h => h) (fun o ho wX hX => by unfold execOp; simp only [ho]; go_simp) hHeld ?_
        simp only [Act.put, List.setIfInBounds_toArray, List.set_cons_zero, List.set_cons_succ]
        refine wpAnyH_ready (rs := [3]) (by kernel_rfl) (by simp) ?_
        refine rStoreS 3 26 (.tmp 3) (.tmp 41) none (cs := entC xs (N : Int)) (by kernel_rfl) (by kernel_rfl) (by exact rfl) (by exact rfl) HTH.out HEL.out HE1.out HTR2.out ?_ AllReadyH.nil
        simp only [Act.put, List.setIfInBounds_toArray, List.set_cons_zero, List.set_cons_succ]
        replace hHeld := HTR2.out
        refine hTake 4 (Op.assign (Operand.const (Value.bool true))) (some 4) (.bool true) (by kernel_rfl) (by kernel_rfl) (by kernel_rfl) (by kernel_rfl) (by kernel_rfl) (fun _ _ _ h => h) (fun o ho wX hX => by unfold execOp; simp only [ho]; go_simp) hHeld ?_
        simp only [Act.put, List.setIfInBounds_toArray, List.set_cons_zero, List.set_cons_succ]
        refine wpAnyH_done (by kernel_rfl) ?_ _
        clear hHeld
        have hrr := World.rangeAt_setCells_same w8.drew gE 0 (entC xs (N : Int)) HTH.out
        have HBF : Hid (Below w.heap.size w (w8.drew.setCells gE 0 (entC xs (N : Int)))) := Lib.hid (HB8.out.trans (setCells_below HGE.out _ _ _).1)
        obtain ⟨w9, hw9⟩ : ∃ w9, w9 = w8.drew.setCells gE 0 (entC xs (N : Int)) := ⟨_, rfl⟩
        rw [← hw9] at hrr HBF ⊢
        clear hw9
        have HRR := Lib.hid hrr
        clear hrr
        go_wp2_with fail
        exact bodyPost_ret (results_cellR_mid rfl _ rfl HRR.out Try.underlying26 rfl HEL.out) rfl ⟨HBF.out, .inr ⟨g, _, HPE.out, rfl⟩⟩
end Go.Proofs.Ytpkcddnclifcpaa
namespace Go.Proofs.Ytpkcddnclifcpaa
open Go.RowKit
attribute [local irreducible] wpQuiet wpAnyH
set_option linter.unusedSimpArgs false

section
variable {P : Program}
/-- A slice as a pointer to an array: the address it begins at. -/
theorem s2a {ops : Array Oper} {rest : List Oper} {o : Oper} {a : Act} {w : World} {Q : Exit → Act → World → Prop} (arr : TypeId) (x : Operand) (ho : o.op = .sliceToArrayPointer arr x) (hw : Region.wanted o (yielded ops a.tmps) = true)
    {A : Option Addr} {n cap m : Nat} {e : TypeId} (hv : a.eval x = .slice A n cap) (hu : P.underlying arr = some (.array m e)) (hn : m ≤ n)
    (h : wpList P ops Q rest (a.put o.dst (.pointer A)) w) : wpList P ops Q (o :: rest) a w :=
  wpList_step fun K hK => by
    rw [if_pos hw]
    unfold Oper.wp
    have hrun : (execOp a.eval o).run P w = .ok (.value (.pointer A)) w := by
      unfold execOp
      simp only [ho, hv, Instr.arrayAt]
      simp only [Sem.run_bind, Sem.run_pure, Result.andThen_ok, run_underlying hu, if_neg (Nat.not_lt.2 hn)]
    rw [hrun, Oper.upon_value]
    exact hK _ _ h
/-- An operation whose run is known. -/
theorem pv {ops : Array Oper} {rest : List Oper} {o : Oper} {a : Act} {w : World} {Q : Exit → Act → World → Prop} (op : Op) (_ : o.op = op) (hw : Region.wanted o (yielded ops a.tmps) = true)
    {v : Value} (hrun : (execOp a.eval o).run P w = .ok (.value v) w) (h : wpList P ops Q rest (a.put o.dst v) w) : wpList P ops Q (o :: rest) a w :=
  wpList_step fun K hK => by
    rw [if_pos hw]
    unfold Oper.wp
    rw [hrun, Oper.upon_value]
    exact hK _ _ h
end

def spX (x : Nat) : Nat := (x * 6364136223846793005 + 1442695040888963407) % 18446744073709551616
def spB (x : Nat) : Int := ((x / 8589934592 % 256 : Nat) : Int)
def spIt (x : Nat) : Nat → Nat
  | 0 => x
  | n + 1 => spX (spIt x n)
def spL (x : Nat) (n : Nat) : List Int := (List.range n).map fun j => spB (spIt x (j + 1))
theorem spL_length (x n : Nat) : (spL x n).length = n := by simp [spL]
theorem spL_bys (x n : Nat) : Bys (spL x n) := fun b hb => by
  simp only [spL, List.mem_map] at hb
  obtain ⟨j, _, rfl⟩ := hb
  unfold spB
  omega
theorem spL_succ (x n : Nat) : spL x (n + 1) = spL x n ++ [spB (spIt x (n + 1))] := by simp [spL, List.range_succ]
theorem spIt_lt {x : Nat} (h : x < 18446744073709551616) : ∀ n, spIt x n < 18446744073709551616
  | 0 => h
  | n + 1 => Nat.mod_lt _ (by omega)
theorem list_of_range32 (s : List Int) (h : s.length = 32) : s = (List.range 32).map (fun i => s.getD i 0) := by
  apply List.ext_getElem
  · simp [h]
  · intro i h1 h2
    simp [h1]
theorem built_num (s : List Int) (t : Int) (h : s.length = 32) : Try.prog.built 26 [(0, .agg (u8s s).toArray), (1, .int .i64 t)] = some (entP (s, t)).toArray := by
  rw [list_of_range32 s h]
  generalize (fun i => s.getD i 0) = D
  kernel_rfl
def numE (n : Nat) (t : Int) : List Int × Int := (spL n 32, t)
theorem numE_ok (n : Nat) (t : Int) (ht : isI64 t) : EntOk (numE n t) := ⟨⟨spL_length _ _, spL_bys _ _⟩, ht⟩

set_option maxRecDepth 100000 in
set_option maxHeartbeats 1000000 in
theorem spread_any (x n : Nat) (w : World) (hx : x < 18446744073709551616) (hn : n ≤ 100000) :
    Calls Try.prog 50 #[.int .u64 x, .int .i64 n] w fun e w' => ∃ v, e = .returned v ∧ w'.ownsRow w.heap.size 5 1 v n (u8s (spL x n)) ∧ Below w.heap.size w w' := by
  have HX := Lib.hid hx
  clear hx
  go_enter Try.func50, Try.ntmps50
  go_wp2_with fail
  go_loopw [5, 6, 7] (fun out y i wr => ∃ k : Nat, k ≤ n ∧ i = .int .i64 k ∧ y = .int .u64 (spIt x k) ∧ Hid (wr.ownsRow w.heap.size 5 1 out k (u8s (spL x k))) ∧ Hid (Below w.heap.size w wr)) (fun _ _ i _ => n - (intOf i).toNat)
  case atStart => exact ⟨0, Nat.zero_le _, rfl, rfl, Lib.hid (World.ownsRow_nil _ _ _ _), Lib.hid (Below.refl _ _)⟩
  case round =>
    obtain ⟨k, hk, rfl, rfl, HO, HB⟩ := hrel
    have hszr := HB.out.size
    rcases Nat.lt_or_ge k n with hlt | hge
    · have hb := spIt_lt HX.out k
      have k1 : IntKind.u64.wrap (IntKind.u64.wrap ((spIt x k : Int) * 6364136223846793005) + 1442695040888963407) = (spIt x (k + 1) : Int) := by
        show _ = ((spX (spIt x k) : Nat) : Int)
        unfold IntKind.wrap spX
        simp only [IntKind.signed, IntKind.bits]
        simp
      have hy := spIt_lt HX.out (k + 1)
      have HSU := Lib.hid (spL_succ x k)
      obtain ⟨y, hyd⟩ : ∃ y, y = spIt x (k + 1) := ⟨_, rfl⟩
      have HYD := Lib.hid hyd
      rw [← hyd] at k1 hy HSU
      clear hyd
      have hsh : (Int.fdiv (y : Int) 8589934592) = ((y / 8589934592 : Nat) : Int) := by rw [Int.fdiv_eq_ediv_of_nonneg _ (by omega)]; omega
      have k3 : IntKind.u8.wrap ((y / 8589934592 : Nat) : Int) = spB y := by unfold IntKind.wrap spB; simp [IntKind.signed, IntKind.bits]
      go_wp2_with (first | (refine pv (v := .int .u64 ((y : Int).fdiv 8589934592)) (Op.binOp BinOp.shr 110 (Operand.tmp 18) (Operand.const (Value.int IntKind.u64 33)) 72) rfl rfl (by kernel_rfl) ?_; rw [hsh]) | (at_builtin; refine app tByt (.tmp 17) (.tmp 21) rfl rfl (by rfl) (World.ownsRow.alloc HO.out _) (by rfl) (Sn.new wr (u8s [spB y]).toArray 5 1 1 rfl) (u8s_mem [spB y]) (by unfold maxLen; omega) (by omega) (by simp; omega) ?_; intro v3 w3 hown hgrow _; rw [List.toList_toArray, ← u8s_append] at hown; have HO3 := Lib.hid hown; have HB3 := Lib.hid ((HB.out.alloc hszr _).grown hgrow (by simp; omega) (fun g hg => (World.ownsRow.lt HO.out g hg).1)); clear hown hgrow))
      exact ⟨⟨k + 1, by omega, by go_num, by rw [HYD.out], Lib.hid (by rw [HSU.out]; exact HO3.out), HB3⟩, by simp [intOf]; omega⟩
    · obtain rfl : k = n := by omega
      go_wp2_with fail
      go_ret
      exact ⟨_, rfl, HO.out, HB.out⟩

set_option maxRecDepth 100000 in
set_option maxHeartbeats 1000000 in
theorem number17 (n : Nat) (t : Int) (w : World) (hn : n < 4294967296) (ht : isI64 t) :
    Calls Try.prog 27 #[.int .i64 n, .int .i64 t] w fun e w' => e = .returned (.agg (entP (numE n t)).toArray) ∧ Below w.heap.size w w' := by
  have HN : Hid (numE n t = (spL n 32, t)) := Lib.hid rfl
  have HSP := Lib.hid (fun w1 => spread_any n 32 w1 (by omega) (by omega))
  have h3 := spL_length n 32
  have h2 : (entP (spL n 32, t)).length = 33 := entP_length _ (numE_ok n t ht)
  rw [HN.out]
  obtain ⟨s, hs⟩ : ∃ s, s = spL n 32 := ⟨_, rfl⟩
  rw [← hs] at HSP h2 h3 ⊢
  clear hs HN ht
  have h1 : (entP (s, t)).toArray.all (·.oneCell') = true := entC_one _ _
  have HS : Hid ((u8s s).length = 32) := Lib.hid (by rw [u8s_length, h3])
  have HBL := Lib.hid (built_num s t h3)
  have hn0 : (0 : Int) ≤ n := by omega
  have hsz : zE.size = (entP (s, t)).toArray.size := by rw [zE_size, List.size_toArray, h2]
  have hsz2 : (Try.prog.info? 26).map (·.size) = some (entP (s, t)).toArray.size := by rw [List.size_toArray, h2]; kernel_rfl
  obtain ⟨E, hE⟩ : ∃ E, E = (entP (s, t)).toArray := ⟨_, rfl⟩
  rw [← hE] at h1 HBL hsz hsz2 ⊢
  clear hE h2 h3
  obtain ⟨w1, hw1⟩ : ∃ w1, w1 = w.alloc (.cells zE 26) := ⟨_, rfl⟩
  have HB1 : Hid (Below w.heap.size w w1) := Lib.hid (by rw [hw1]; exact (Below.refl _ w).alloc (Nat.le_refl _) _)
  have HE1 : Hid (Blk w1 w.heap.size 26 zE) := Lib.hid (by rw [hw1]; exact Blk.new _ _ _)
  go_enter Try.func27, Try.ntmps27
  go_wp2_with (refine al 26 _ rfl rfl zeroE ?_)
  rw [← hw1]
  clear hw1
  refine (HSP.out w1).mono ?_
  rintro e w2 ⟨v, rfl, ho, hb2⟩
  have HB2 := Lib.hid (bstep HB1.out hb2)
  have HE2 := Lib.hid (HE1.out.keep hb2)
  obtain ⟨A, cap, rfl, _, _, hx⟩ := Sn.own ho
  obtain ⟨b, off, rfl, hcell⟩ := hx (by omega)
  have HR : Hid (w2.rangeAt b off (u8s s)) := Lib.hid hcell
  clear ho hb2 hx hcell
  go_wp2_with (first
    | (refine s2a 24 _ rfl rfl rfl Try.underlying24 (by omega) ?_)
    | (refine ld 24 _ rfl rfl rfl HR.out Try.underlying24 rfl (by rw [HS.out]; kernel_rfl) ?_)
    | (refine bld 26 _ rfl rfl rfl HBL.out ?_)
    | (refine stBlk 26 (.tmp 4) (.tmp 11) rfl rfl rfl rfl HE2.out hsz2 hsz h1 ?_; intro w3 hB3 hb3 _ _; have HB3 := Lib.hid hB3; have HE3 := Lib.hid hb3; clear hB3 hb3))
  refine bodyPost_ret (results_cell_row rfl _ _ w.heap.size 26 _ (0, 0) _ rfl HB3.out Try.underlying26 rfl hsz2) rfl ⟨rfl, ?_⟩
  exact HB2.out.trans (HE3.out.mono (Nat.le_refl _))
end Go.Proofs.Ytpkcddnclifcpaa
namespace Go.Proofs.Ytpkcddnclifcpaa
open Go.RowKit
attribute [local irreducible] wpQuiet wpAnyH
set_option linter.unusedSimpArgs false

section
variable {P : Program}
/-- A shift to the right of a number that is not negative. -/
theorem shrN {ops : Array Oper} {rest : List Oper} {o : Oper} {a : Act} {w : World} {Q : Exit → Act → World → Prop} (t t2 : TypeId) (x y : Operand) (ho : o.op = .binOp .shr t x y t2) (hw : Region.wanted o (yielded ops a.tmps) = true)
    {k yk : IntKind} {n m : Nat} (hx : a.eval x = .int k n) (hy : a.eval y = .int yk m) (hm : m ≤ k.bits)
    (h : wpList P ops Q rest (a.put o.dst (.int k ((n / 2 ^ m : Nat) : Int))) w) : wpList P ops Q (o :: rest) a w :=
  wpList_step fun K hK => by
    rw [if_pos hw]
    unfold Oper.wp
    have hrun : (execOp a.eval o).run P w = .ok (.value (.int k ((n / 2 ^ m : Nat) : Int))) w := by
      unfold execOp
      simp only [ho, hx, hy]
      have hs : (binOp .shr t (.int k n) (.int yk m)).run P w = .ok (.int k ((n / 2 ^ m : Nat) : Int)) w := by
        show (Op.shift .shr k n yk m).run P w = _
        rw [shift_shr k yk n m (by omega) (by omega)]
        simp
      have hg : (eqGuard .shr t x y (.int k n) (.int yk m)).run P w = .ok () w := rfl
      simp only [Sem.run_bind, hg, hs, Result.andThen_ok]
      rfl
    rw [hrun, Oper.upon_value]
    exact hK _ _ h
end

def rk (x c k : Nat) : Nat := crcIt k (x ^^^ c) ^^^ (c / 2 ^ k)
theorem rk_zero (x c : Nat) : rk x c 0 = x := by
  unfold rk crcIt
  rw [Nat.pow_zero, Nat.div_one, Nat.xor_assoc, Nat.xor_self, Nat.xor_zero]
theorem xor_div2 (a b : Nat) : (a ^^^ b) / 2 = a / 2 ^^^ b / 2 := by
  have := Nat.shiftRight_xor_distrib (a := a) (b := b) (i := 1)
  simpa [Nat.shiftRight_eq_div_pow] using this
theorem xor_mod2 (a b : Nat) : (a ^^^ b) % 2 = a % 2 ^^^ b % 2 := by
  have := Nat.xor_mod_two_pow (a := a) (b := b) (n := 1)
  simpa using this
theorem rk_out (x c k : Nat) : (rk x c k % 2) ^^^ (c / 2 ^ k % 2) = crcIt k (x ^^^ c) % 2 := by
  unfold rk
  rw [xor_mod2, Nat.xor_assoc, Nat.xor_self, Nat.xor_zero]
theorem rk_next (x c k : Nat) : rk x c (k + 1) = if crcIt k (x ^^^ c) % 2 = 1 then (rk x c k / 2) ^^^ 2197175160 else rk x c k / 2 := by
  have e : c / 2 ^ (k + 1) = c / 2 ^ k / 2 := by rw [Nat.pow_succ, Nat.div_div_eq_div_mul]
  unfold rk
  rw [show crcIt (k + 1) (x ^^^ c) = crc1 (crcIt k (x ^^^ c)) from rfl, xor_div2, e]
  unfold crc1
  split
  · rw [Nat.xor_assoc, Nat.xor_comm 2197175160, ← Nat.xor_assoc]
  · rfl
theorem rk_lt {x c : Nat} (hx : x < 4294967296) (hc : c < 256) (k : Nat) : rk x c k < 4294967296 :=
  Nat.xor_lt_two_pow (n := 32) (crcIt_lt (Nat.xor_lt_two_pow (n := 32) (by omega) (by omega)) k) (Nat.lt_of_le_of_lt (Nat.div_le_self _ _) (by omega))
theorem rk_eight {x c : Nat} (hc : c < 256) : rk x c 8 = crc8 (x ^^^ c) := by
  unfold rk
  rw [Nat.div_eq_of_lt (show c < 2 ^ 8 by omega), Nat.xor_zero]
  rfl

set_option maxRecDepth 100000 in
set_option maxHeartbeats 2000000 in
theorem ref_update (l : List Int) (v : Value) (w : World) (hs : Sn w 1 v l.length (u8s l)) (hb : Bys l) (hl : l.length ≤ 1000000) :
    Calls Try.prog 94 #[.int .u32 0, v] w fun e w' => e = .returned (.int .u32 (crcSum l)) ∧ Below w.heap.size w w' := by
  obtain ⟨A, cap, rfl, hcap, _, _⟩ := id hs
  have HS := Lib.hid hs
  have HB := Lib.hid hb
  clear hs hb
  have hru : crcRun 4294967295 [] = 4294967295 := by unfold crcRun; rfl
  go_enter Try.func94, Try.ntmps94
  go_wp2_with fail
  go_loopw [5, 6] (fun r i wr => ∃ k : Nat, k ≤ l.length ∧ i = .int .i64 k ∧ r = .int .u32 (crcRun 4294967295 (l.take k)) ∧ wr = w) (fun _ i _ => l.length - (intOf i).toNat)
  case atStart => exact ⟨0, Nat.zero_le _, rfl, by rw [List.take_zero, hru]; rfl, rfl⟩
  case round =>
    obtain ⟨k, hk, rfl, rfl, hW⟩ := hrel
    rw [hW]
    clear hW
    rcases Nat.lt_or_ge k l.length with hlt | hge
    · obtain ⟨A', cap', hv, _, _, hx⟩ := HS.out
      injection hv with hv _ hv2
      obtain ⟨b, off, he, hcell⟩ := hx (by omega)
      subst hv hv2 he
      have hc0 := HB.out l[k] (List.getElem_mem hlt)
      have hi := hcell k _ (u8s_get l k hlt)
      obtain ⟨c, hc⟩ : ∃ c : Nat, l[k] = c := ⟨l[k].toNat, by omega⟩
      have HSNOC : Hid (crcRun 4294967295 (l.take (k + 1)) = rk (crcRun 4294967295 (l.take k)) c 8) := Lib.hid (by
        rw [rk_eight (by omega), crcRun_snoc _ _ _ hlt, hc]; rfl)
      rw [hc] at hi hc0
      have hx0 : crcRun 4294967295 (l.take k) < 4294967296 := crcRun_lt _ (fun b hb => HB.out b (List.mem_of_mem_take hb)) _ (by omega)
      obtain ⟨x, hxd⟩ : ∃ x, x = crcRun 4294967295 (l.take k) := ⟨_, rfl⟩
      rw [← hxd] at HSNOC hx0 ⊢
      have hi0 : (0 : Int) ≤ k := by omega
      have hi1 : (k : Int) < l.length := by omega
      clear hxd hc hcell hx
      go_wp2_with fail
      go_loopw [5, 7] (fun r i wr => ∃ j : Nat, j ≤ 8 ∧ i = .int .i64 j ∧ r = .int .u32 (rk x c j) ∧ wr = w) (fun _ i _ => 8 - (intOf i).toNat)
      case atStart => exact ⟨0, Nat.zero_le _, rfl, by rw [rk_zero], rfl⟩
      case round =>
        obtain ⟨j, hj, rfl, rfl, hW⟩ := hrel
        rw [hW]
        clear hW
        rcases Nat.lt_or_ge j 8 with hj8 | hj8
        · have hr := rk_lt (x := x) (c := c) hx0 (by omega) j
          have o1 := u32_xor_nat (rk x c j % 2) (c / 2 ^ j % 2) (by omega) (by omega)
          rw [rk_out] at o1
          have hn := rk_next x c j
          have o2 := u32_xor_nat (rk x c j / 2) 2197175160 (by omega) (by omega)
          have hj0 : (0 : Int) ≤ j := by omega
          have hj1 : (j : Int) < 8 := by omega
          have hcj : c / 2 ^ j < 256 := Nat.lt_of_le_of_lt (Nat.div_le_self _ _) (by omega)
          have HN := Lib.hid hn
          clear hn
          have o1' : bits .xor .u32 ((rk x c j : Int) % 2) (((c / 2 ^ j : Nat) : Int) % 2) = ((crcIt j (x ^^^ c) % 2 : Nat) : Int) := o1
          have o2' : bits .xor .u32 ((rk x c j : Int) / 2) 2197175160 = ((rk x c j / 2 ^^^ 2197175160 : Nat) : Int) := o2
          have e : ((c / 2 ^ j : Nat) : Int) = (c : Int) / 2 ^ j := by simp
          rw [e] at o1'
          clear o1 o2 e
          rcases Nat.mod_two_eq_zero_or_one (crcIt j (x ^^^ c)) with h2 | h2
          all_goals
            rw [h2] at o1' HN
            go_wp2_with (refine shrN _ _ _ _ rfl rfl (n := c) (m := j) rfl rfl (by show j ≤ 8; omega) ?_)
            exact ⟨⟨j + 1, by omega, by go_num, by rw [HN.out]; simp, trivial⟩, by simp [intOf]; omega⟩
        · obtain rfl : j = 8 := by omega
          go_wp2_with fail
          exact ⟨⟨k + 1, by omega, by go_num, by rw [HSNOC.out], trivial⟩, by simp [intOf]; omega⟩
    · obtain rfl : k = l.length := by omega
      rw [List.take_length]
      have h1 := crcRun_lt l HB.out 4294967295 (by omega)
      have HCS : Hid (((crcSum l : Nat) : Int) = 4294967295 - (crcRun 4294967295 l : Int)) := Lib.hid (by unfold crcSum; omega)
      go_wp2_with fail
      go_ret
      exact ⟨by rw [HCS.out]; rfl, Below.refl _ _⟩
set_option maxRecDepth 100000 in
theorem ref_sum (l : List Int) (v : Value) (w : World) (hs : Sn w 1 v l.length (u8s l)) (hb : Bys l) (hl : l.length ≤ 1000000) :
    Calls Try.prog 83 #[v] w fun e w' => e = .returned (.int .u32 (crcSum l)) ∧ Below w.heap.size w w' := by
  obtain ⟨A, cap, rfl, _, _, _⟩ := id hs
  go_enter Try.func83, Try.ntmps83
  go_wp2_with fail
  refine (ref_update l _ w hs hb hl).mono ?_
  rintro e w1 ⟨rfl, hb1⟩
  go_wp2_with fail
  go_ret
  exact ⟨rfl, hb1⟩
end Go.Proofs.Ytpkcddnclifcpaa
namespace Go.Proofs.Ytpkcddnclifcpaa
open Go.RowKit
attribute [local irreducible] wpQuiet wpAnyH
set_option linter.unusedSimpArgs false

/-- A write and, if it is done, a sync. -/
def wsD (d : DiskD) (a : Int) (s : List Int) : DiskD := match writeA d a with | some _ => writeD d a s | none => syncS (writeD d a s)
def wsA (d : DiskD) (a : Int) (s : List Int) : Ans := match writeA d a with | some x => some x | none => syncA (writeD d a s)
theorem stepped_room {d : DiskD} (h : d.steps ≤ d.room) : (stepped d).room ≤ d.room + 1 := by show max d.room (d.steps + 1) ≤ d.room + 1; omega
theorem writeD_room {d : DiskD} (h : d.steps ≤ d.room) (a : Int) (s : List Int) : (writeD d a s).room ≤ d.room + 2 := by
  have h1 := stepped_room h
  have h2 := addIf_room (stepped d) a s
  unfold writeD
  split
  · omega
  · split
    · show (addIf (stepped d) a s).room ≤ _; omega
    · split <;> omega
theorem rec_bys (g : Nat) (p : List Int) (hb : Bys p) : Bys (rec g p) := fun b h => by
  unfold rec at h
  rcases List.mem_append.1 h with h | h
  · exact body_bys hb b (List.mem_of_mem_take h)
  · rcases List.mem_append.1 h with h | h
    · exact beB_bys _ _ b h
    · exact beB_bys _ _ b h
theorem neq_nil (t : TypeId) (u : Value) (w : World) : (binOp .neq 37 (.iface t u) .nilIface).run Try.prog w = .ok (.bool true) w := by kernel_rfl

set_option maxRecDepth 100000 in
set_option maxHeartbeats 2000000 in
theorem slot_commit (f z : Int) (g : Nat) (w : World) (m : DiskM) (d : DiskD) (h : DK w m d) (hf : isI64 f) (hg : g < 4294967296) (hr : d.room + 3 ≤ 100000) :
    Calls Try.prog 18 #[.pointer (some ⟨m.g, 0, none⟩), .agg #[.int .i64 f, .int .i64 z], .int .u32 g] w fun e w' => e = .returned (valE (wsA d f (rec g toll))) ∧ ∃ m', DK w' m' (wsD d f (rec g toll)) ∧ DT w m w' m' := by
  have hB0 : Below w.heap.size w (w.alloc (.cells #[.int .i64 f, .int .i64 z] 30)) := (Below.refl _ w).alloc (Nat.le_refl _) _
  obtain ⟨w1, hw1⟩ : ∃ w1, w1 = w.alloc (.cells #[.int .i64 f, .int .i64 z] 30) := ⟨_, rfl⟩
  have HK1 : Hid (DK w1.drew m d) := Lib.hid (by rw [hw1]; exact (h.keep hB0).drew)
  have HB1 : Hid (Below w.heap.size w w1.drew) := Lib.hid (by rw [hw1]; exact hB0.drew)
  have HC1 : Hid (w1.drew.cell? ⟨w.heap.size, 0, none⟩ = some (.int .i64 f)) := Lib.hid (by rw [hw1]; exact (Blk.new w _ #[.int .i64 f, .int .i64 z]).cell 0)
  have HNF := Lib.hid (h.notFoot (Nat.le_refl w.heap.size))
  have HSR : Hid (Sec (rec g toll)) := Lib.hid ⟨rec_length g toll (by decide), rec_bys g toll toll_bys⟩
  have hst := h.ok.st
  clear h hB0
  go_enter Try.func18, Try.ntmps18
  go_upto_region 1 with fail
  rw [← hw1]
  clear hw1
  refine held_start 7 (fun w' => w'.cell? ⟨w.heap.size, 0, none⟩ = some (.int .i64 f)) (by kernel_rfl) (by kernel_rfl) (HC1.out) (fun hHeld => ?_)
  refine hMove 0 (Operand.tmp 0) (some 8) (.pointer (some ⟨m.g, 0, none⟩)) (by kernel_rfl) (by kernel_rfl) (by kernel_rfl) (by kernel_rfl) (by kernel_rfl) (fun _ _ _ h => h) (by exact rfl) hHeld ?_
  simp only [Act.put, List.setIfInBounds_toArray, List.set_cons_zero, List.set_cons_succ]
  refine hTake 1 (Op.fieldAddr 30 (Operand.tmp 4) 0) (some 9) (.pointer (some ⟨w.heap.size, 0, none⟩)) (by kernel_rfl) (by kernel_rfl) (by kernel_rfl) (by kernel_rfl) (by kernel_rfl) (fun _ _ _ h => h) (fun o ho wX hX => by unfold execOp; simp only [ho]; go_simp) hHeld ?_
  simp only [Act.put, List.setIfInBounds_toArray, List.set_cons_zero, List.set_cons_succ]
  refine hTake 2 (Op.load 3 (Operand.tmp 9)) (some 10) (.int .i64 f) (by kernel_rfl) (by kernel_rfl) (by kernel_rfl) (by kernel_rfl) (by kernel_rfl) (fun _ _ _ h => h) (fun o ho wX hX => by unfold execOp; simp only [ho]; go_simp) hHeld ?_
  simp only [Act.put, List.setIfInBounds_toArray, List.set_cons_zero, List.set_cons_succ]
  refine hMove 3 (Operand.tmp 2) (some 11) (.int .u32 g) (by kernel_rfl) (by kernel_rfl) (by kernel_rfl) (by kernel_rfl) (by kernel_rfl) (fun _ _ _ h => h) (by exact rfl) hHeld ?_
  simp only [Act.put, List.setIfInBounds_toArray, List.set_cons_zero, List.set_cons_succ]
  refine wpAnyH_ready (rs := [4]) (by kernel_rfl) (by simp) ?_
  refine rCall 4 (Op.call { callee := Callee.value (Operand.func 36), args := #[Operand.tmp 11], argTypes := #[39] }) (some 12) 36 (#[.int .u32 g]) (by kernel_rfl) (by kernel_rfl) (fun o ho => by unfold execOp; simp only [ho]; go_simp) ?_ AllReadyH.nil
  refine (frame_header g w1.drew hg).mono ?_
  rintro e w2 ⟨rfl, hb2⟩
  have HK2 := Lib.hid (HK1.out.keep hb2)
  have HB2 : Hid (Below w.heap.size w w2) := Lib.hid (bstep HB1.out hb2)
  refine ⟨_, rfl, Below.cell' hb2 hHeld, fun hHeld => ?_⟩
  simp only [Act.put, List.setIfInBounds_toArray, List.set_cons_zero, List.set_cons_succ]
  refine wpAnyH_ready (rs := [5]) (by kernel_rfl) (by simp) ?_
  refine rCall 5 (Op.call { callee := Callee.value (Operand.func 29), args := #[Operand.tmp 8, Operand.tmp 10, Operand.tmp 12], argTypes := #[34, 3, 80] }) (some 13) 29 (#[.pointer (some ⟨m.g, 0, none⟩), .int .i64 f, .agg (u8s (rec g toll)).toArray]) (by kernel_rfl) (by kernel_rfl) (fun o ho => by unfold execOp; simp only [ho]; go_simp) ?_ AllReadyH.nil
  refine (disk_write f (rec g toll) w2 m d HK2.out hf HSR.out (by omega)).mono ?_
  rintro e w3 ⟨rfl, m3, hdk, hdt⟩
  rw [writeE_val]
  refine ⟨_, rfl, hdt.fo.cell hHeld HNF.out, fun hHeld => ?_⟩
  simp only [Act.put, List.setIfInBounds_toArray, List.set_cons_zero, List.set_cons_succ]
  refine hTake 6 (Op.assign (Operand.tmp 13)) (some 7) (valE (writeA d f)) (by kernel_rfl) (by kernel_rfl) (by kernel_rfl) (by kernel_rfl) (by kernel_rfl) (fun _ _ _ h => h) (fun o ho wX hX => by unfold execOp; simp only [ho]; go_simp) hHeld ?_
  simp only [Act.put, List.setIfInBounds_toArray, List.set_cons_zero, List.set_cons_succ]
  refine wpAnyH_done (by kernel_rfl) ?_ _
  clear hHeld
  have HDT : Hid (DT w m w3 m3) := Lib.hid ((DT.of_below HB2.out).trans hdt)
  have HDK := Lib.hid hdk
  have HRM : Hid ((writeD d f (rec g toll)).room ≤ d.room + 2) := Lib.hid (writeD_room hst f _)
  clear hdk hdt
  have hg3 : m3.g = m.g := HDT.out.g
  cases ha : writeA d f with
  | some x =>
    have HF : Hid (wsA d f (rec g toll) = some x ∧ wsD d f (rec g toll) = writeD d f (rec g toll)) := Lib.hid (by unfold wsA wsD; rw [ha]; exact ⟨rfl, rfl⟩)
    obtain ⟨t, u, hv⟩ := valE_form x
    rw [hv]
    have HV := Lib.hid hv
    have hne := neq_nil t u
    clear ha hv
    go_wp2_with fail
    go_ret
    exact ⟨by rw [HF.out.1, HV.out]; rfl, m3, by rw [HF.out.2]; exact HDK.out, HDT.out⟩
  | none =>
    have HF : Hid (wsA d f (rec g toll) = syncA (writeD d f (rec g toll)) ∧ wsD d f (rec g toll) = syncS (writeD d f (rec g toll))) := Lib.hid (by unfold wsA wsD; rw [ha]; exact ⟨rfl, rfl⟩)
    have hv : valE none = .nilIface := rfl
    rw [hv]
    clear ha
    go_wp2_with fail
    rw [← hg3]
    refine (disk_sync w3 m3 _ HDK.out (by have := HRM.out; omega)).mono ?_
    rintro e w4 ⟨rfl, m4, hdk4, hdt4⟩
    have HD4 := Lib.hid hdk4
    have HT4 : Hid (DT w m w4 m4) := Lib.hid (HDT.out.trans hdt4)
    clear hdk4 hdt4
    go_wp2_with fail
    go_ret
    exact ⟨by rw [HF.out.1, ← syncE_val]; rfl, m4, by rw [HF.out.2]; exact HD4.out, HT4.out⟩
end Go.Proofs.Ytpkcddnclifcpaa
namespace Go.Proofs.Ytpkcddnclifcpaa
open Go.RowKit
attribute [local irreducible] wpQuiet wpAnyH
set_option linter.unusedSimpArgs false

def putD (d : DiskD) (f z p : Int) (g : Nat) (q : List Int × Int) : DiskD := if p < 1 then d else if room z < p then d else if rightE q then wsD d (f + p) (entRec g q) else d
def putA (d : DiskD) (f z p : Int) (g : Nat) (q : List Int × Int) : Ans := if p < 1 then some (13, none) else if room z < p then some (13, none) else if rightE q then wsA d (f + p) (entRec g q) else some (15, none)
theorem entRec_sec (g : Nat) {q : List Int × Int} (hq : EntOk q) : Sec (entRec g q) := by
  have hl : (q.1 ++ beB 8 q.2.toNat).length = 40 := by rw [List.length_append, beB_length, hq.dig.len]
  refine ⟨rec_length g _ (by rw [hl]; omega), rec_bys g _ fun b hb => ?_⟩
  rcases List.mem_append.1 hb with hb | hb
  · exact hq.dig.byte b hb
  · exact beB_bys _ _ b hb
theorem pick_sec (g : Nat) {q : List Int × Int} (hq : EntOk q) : Sec (if rightE q then entRec g q else zsec) := by
  split
  · exact entRec_sec g hq
  · exact zsec_sec

set_option maxRecDepth 100000 in
set_option maxHeartbeats 2000000 in
theorem slot_put (f z p : Int) (g : Nat) (q : List Int × Int) (w : World) (m : DiskM) (d : DiskD) (h : DK w m d) (hf : 0 ≤ f ∧ f ≤ 100000) (hz : isI64 z ∧ z ≤ 100000) (hp : isI64 p) (hg : g < 4294967296) (hq : EntOk q) (hr : d.room + 3 ≤ 100000) :
    Calls Try.prog 11 #[.pointer (some ⟨m.g, 0, none⟩), .agg #[.int .i64 f, .int .i64 z], .int .i64 p, .int .u32 g, .agg (entP q).toArray] w fun e w' => e = .returned (valE (putA d f z p g q)) ∧ ∃ m', DK w' m' (putD d f z p g q) ∧ DT w m w' m' := by
  have hB0 : Below w.heap.size w ((w.alloc (.cells #[.int .i64 f, .int .i64 z] 30)).alloc (.cells (entP q).toArray 26)) := ((Below.refl _ w).alloc (Nat.le_refl _) _).alloc (by simp) _
  obtain ⟨w1, hw1⟩ : ∃ w1, w1 = (w.alloc (.cells #[.int .i64 f, .int .i64 z] 30)).alloc (.cells (entP q).toArray 26) := ⟨_, rfl⟩
  have HK1 : Hid (DK w1 m d) := Lib.hid (by rw [hw1]; exact h.keep hB0)
  have HB1 : Hid (Below w.heap.size w w1) := Lib.hid (by rw [hw1]; exact hB0)
  have HX1 : Hid (Blk w1 w.heap.size 30 #[.int .i64 f, .int .i64 z]) := Lib.hid (by rw [hw1]; exact (Blk.new w _ _).alloc _)
  have HR1 : Hid (w1.rangeAt w.heap.size 0 [.int .i64 f, .int .i64 z]) := Lib.hid (by have := HX1.out.range; exact this)
  have HE1 : Hid (Blk w1 (w.heap.size + 1) 26 (entP q).toArray) := Lib.hid (by rw [hw1]; exact Blk.newAt _ _ _ _ (by simp))
  have HNF := Lib.hid (h.notFoot (Nat.le_refl w.heap.size))
  have HSR : Hid (Sec (entRec g q)) := Lib.hid (entRec_sec g hq)
  have HSP := Lib.hid (pick_sec g hq)
  have HEL : Hid ((Try.prog.info? 26).map (·.size) = some (entP q).length) := Lib.hid (by rw [entP_length q hq]; kernel_rfl)
  have HPZ : Hid ((Try.prog.info? 80).map (·.size) = some (u8s (if rightE q then entRec g q else zsec)).toArray.size ∧ z64.size = (u8s (if rightE q then entRec g q else zsec)).toArray.size) := Lib.hid ⟨by rw [List.size_toArray, sec_length HSP.out]; kernel_rfl, by rw [z64_size, List.size_toArray, sec_length HSP.out]⟩
  have hst := h.ok.st
  have hf1 : 0 ≤ f := hf.1
  have hf2 : f ≤ 100000 := hf.2
  have hp1 : -9223372036854775808 ≤ p := hp.1
  have hp2 : p ≤ 9223372036854775807 := hp.2
  have hrz : room z ≤ 100000 := by unfold room; split <;> omega
  clear h hB0 hf hp
  rcases Bool.eq_false_or_eq_true (decide (p < 1)) with t1 | t1
  · have HF : Hid (putA d f z p g q = some (13, none) ∧ putD d f z p g q = d) := Lib.hid (by unfold putA putD; rw [if_pos (of_decide_eq_true t1), if_pos (of_decide_eq_true t1)]; exact ⟨rfl, rfl⟩)
    go_enter Try.func11, Try.ntmps11
    go_upto_region 1 with fail
    rw [← hw1]
    clear hw1
    go_wp2_with fail
    go_ret
    exact ⟨by rw [HF.out.1]; rfl, m, by rw [HF.out.2]; exact HK1.out, DT.of_below HB1.out⟩
  · have hp0 : ¬ p < 1 := of_decide_eq_false t1
    go_enter Try.func11, Try.ntmps11
    go_upto_region 1 with fail
    rw [← hw1]
    clear hw1
    go_wp2_with (refine ld 30 _ rfl rfl rfl HR1.out Try.underlying30 rfl (by kernel_rfl) ?_)
    refine (slot_room f z w1 hz.1).mono ?_
    rintro e w2 ⟨rfl, hb2⟩
    have HB2 : Hid (Below w.heap.size w w2) := Lib.hid (bstep HB1.out hb2)
    have HX2 : Hid (Blk w2 w.heap.size 30 #[.int .i64 f, .int .i64 z]) := Lib.hid (HX1.out.keep hb2)
    have HE2 : Hid (w2.rangeAt (w.heap.size + 1) 0 (entP q)) := Lib.hid (by have := (HE1.out.keep hb2).range; rw [List.toList_toArray] at this; exact this)
    have HK2 := Lib.hid (HK1.out.keep hb2)
    obtain ⟨R, hR⟩ : ∃ R, R = room z := ⟨_, rfl⟩
    have HRR := Lib.hid hR
    rw [← hR] at hrz ⊢
    clear hb2 hR
    rcases Bool.eq_false_or_eq_true (decide (R < p)) with t2 | t2
    · have HF : Hid (putA d f z p g q = some (13, none) ∧ putD d f z p g q = d) := Lib.hid (by unfold putA putD; rw [if_neg (show ¬ p < 1 by omega), if_neg (show ¬ p < 1 by omega), ← HRR.out, if_pos (of_decide_eq_true t2), if_pos (of_decide_eq_true t2)]; exact ⟨rfl, rfl⟩)
      clear hp0
      go_wp2_with fail
      go_ret
      exact ⟨by rw [HF.out.1]; rfl, m, by rw [HF.out.2]; exact HK2.out, DT.of_below HB2.out⟩
    · have hp3 : p ≤ R := by have := of_decide_eq_false t2; omega
      have HF0 : Hid (putA d f z p g q = (if rightE q then wsA d (f + p) (entRec g q) else some (15, none)) ∧ putD d f z p g q = (if rightE q then wsD d (f + p) (entRec g q) else d)) := Lib.hid (by unfold putA putD; rw [if_neg (show ¬ p < 1 by omega), if_neg (show ¬ p < 1 by omega), ← HRR.out, if_neg (of_decide_eq_false t2), if_neg (of_decide_eq_false t2)]; exact ⟨rfl, rfl⟩)
      have hp4 : 1 ≤ p := by omega
      clear hp0 HRR
      go_wp2_with (refine ld 26 _ rfl rfl rfl HE2.out Try.underlying26 rfl HEL.out ?_)
      refine (frame_entry g q w2 hq hg).mono ?_
      rintro e w3 ⟨rfl, hb3⟩
      have HB3 : Hid (Below w.heap.size w w3) := Lib.hid (bstep HB2.out hb3)
      have HX3 : Hid (Blk w3 w.heap.size 30 #[.int .i64 f, .int .i64 z]) := Lib.hid (HX2.out.keep hb3)
      have HK3 := Lib.hid (HK2.out.keep hb3)
      have hlt3 : w.heap.size < w3.heap.size := HX3.out.lt
      clear hb3
      obtain ⟨S, hS⟩ : ∃ S, S = (if rightE q then entRec g q else zsec) := ⟨_, rfl⟩
      rw [← hS] at HPZ HSP ⊢
      have HS1 := Lib.hid (u8s_one S)
      cases hrq : rightE q with
      | false =>
        have HF : Hid (putA d f z p g q = some (15, none) ∧ putD d f z p g q = d) := Lib.hid (by rw [HF0.out.1, HF0.out.2, hrq]; exact ⟨rfl, rfl⟩)
        clear hrq hS HF0
        go_wp2_with (first
          | (refine al 80 z64 rfl rfl zero64 ?_)
          | (refine stNew 80 (.tmp 11) (.tmp 27) rfl rfl rfl rfl HPZ.out.1 HPZ.out.2 HS1.out ?_; intro w4 hK hb4 hz4; have HB4 := Lib.hid hb4; clear hK hb4 hz4))
        go_ret
        exact ⟨by rw [HF.out.1]; rfl, m, by rw [HF.out.2]; exact HK3.out.keep HB4.out, DT.of_below (HB3.out.trans (HB4.out.mono HB3.out.size))⟩
      | true =>
        rw [hrq] at hS HF0
        replace hS : S = entRec g q := hS
        replace HF0 : Hid (putA d f z p g q = wsA d (f + p) (entRec g q) ∧ putD d f z p g q = wsD d (f + p) (entRec g q)) := HF0
        rw [← hS] at HF0
        clear hrq hS
        have hcb : ∀ w4, Below w3.heap.size w3 w4 → w4.cell? ⟨w.heap.size, 0, none⟩ = some (.int .i64 f) := fun w4 hb => (HX3.out.keep hb).cell 0
        have HCB := Lib.hid hcb
        have HUS : Hid ((Try.prog.info? 80).map (·.size) = some (u8s S).length) := Lib.hid (by rw [sec_length HSP.out]; kernel_rfl)
        clear hcb
        go_wp2_with (first
          | (refine al 80 z64 rfl rfl zero64 ?_)
          | (refine stNew 80 (.tmp 11) (.tmp 27) rfl rfl rfl rfl HPZ.out.1 HPZ.out.2 HS1.out ?_; intro w4 hK hb4 hz4; have HB4 := Lib.hid hb4; have HR4 : Hid (w4.rangeAt w3.heap.size 0 (u8s S)) := Lib.hid (by have := Blk.range (show Blk w4 w3.heap.size 80 (u8s S).toArray from hK); rw [List.toList_toArray] at this; exact this); have hc4 := HCB.out w4 hb4; clear hK hb4 hz4)
          | (refine ld 80 _ rfl rfl rfl HR4.out Try.underlying80 rfl HUS.out ?_))
        have HK4 := Lib.hid (HK3.out.keep HB4.out)
        have HB40 : Hid (Below w.heap.size w w4) := Lib.hid (HB3.out.trans (HB4.out.mono HB3.out.size))
        refine (disk_write (f + p) S w4 m d HK4.out ⟨by omega, by omega⟩ HSP.out (by omega)).mono ?_
        rintro e w5 ⟨rfl, m5, hdk, hdt⟩
        rw [writeE_val]
        have HDT : Hid (DT w m w5 m5) := Lib.hid ((DT.of_below HB40.out).trans hdt)
        have HDK := Lib.hid hdk
        have HRM : Hid ((writeD d (f + p) S).room ≤ d.room + 2) := Lib.hid (writeD_room hst (f + p) _)
        clear hdk hdt hc4
        have hg3 : m5.g = m.g := HDT.out.g
        cases ha : writeA d (f + p) with
        | some x =>
          have HF : Hid (putA d f z p g q = some x ∧ putD d f z p g q = writeD d (f + p) S) := Lib.hid (by rw [HF0.out.1, HF0.out.2]; unfold wsA wsD; rw [ha]; exact ⟨rfl, rfl⟩)
          obtain ⟨t, u, hv⟩ := valE_form x
          rw [hv]
          have HV := Lib.hid hv
          have hne := neq_nil t u
          clear ha hv
          go_wp2_with fail
          go_ret
          exact ⟨by rw [HF.out.1, HV.out]; rfl, m5, by rw [HF.out.2]; exact HDK.out, HDT.out⟩
        | none =>
          have HF : Hid (putA d f z p g q = syncA (writeD d (f + p) S) ∧ putD d f z p g q = syncS (writeD d (f + p) S)) := Lib.hid (by rw [HF0.out.1, HF0.out.2]; unfold wsA wsD; rw [ha]; exact ⟨rfl, rfl⟩)
          have hv : valE none = .nilIface := rfl
          rw [hv]
          clear ha
          go_wp2_with fail
          rw [← hg3]
          refine (disk_sync w5 m5 _ HDK.out (by have := HRM.out; omega)).mono ?_
          rintro e w6 ⟨rfl, m6, hdk4, hdt4⟩
          have HD4 := Lib.hid hdk4
          have HT4 : Hid (DT w m w6 m6) := Lib.hid (HDT.out.trans hdt4)
          clear hdk4 hdt4
          go_wp2_with fail
          go_ret
          exact ⟨by rw [HF.out.1, ← syncE_val]; rfl, m6, by rw [HF.out.2]; exact HD4.out, HT4.out⟩
end Go.Proofs.Ytpkcddnclifcpaa
