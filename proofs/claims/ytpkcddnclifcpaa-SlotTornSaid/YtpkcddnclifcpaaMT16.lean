/- Parts: The law SlotTorn: its walk. -/
import Derived.Test.YtpkcddnclifcpaaMT14
import Derived.Test.YtpkcddnclifcpaaMT15
import Derived.Test.YtpkcddnclifcpaaMT1
import Derived.Test.YtpkcddnclifcpaaMT5
namespace Go.Proofs.Ytpkcddnclifcpaa
open Go.RowKit
attribute [local irreducible] wpQuiet wpAnyH
set_option linter.unusedSimpArgs false

theorem Sn.blk_lt {w : World} {s n cap : Nat} {A : Option Addr} {xs : List Value} (h : Sn w s (.slice A n cap) n xs) (hn : 0 < n) (hs : 0 < s) : ∀ b, (Value.slice A n cap).ownBlock = some b → b < w.heap.size := by
  obtain ⟨A', cap', hv, _, hl, hx⟩ := h
  injection hv with hA _ _
  subst hA
  obtain ⟨b, off, rfl, hcell⟩ := hx hn
  intro b' e
  injection e with e
  subst e
  have hp : 0 < xs.length := by rw [hl]; exact Nat.mul_pos hn hs
  exact cell_lt (hcell 0 _ (List.getElem?_eq_getElem hp))
theorem Sn.take {w : World} {s n cap : Nat} {A : Option Addr} {xs : List Value} (h : Sn w s (.slice A n cap) n xs) (k : Nat) (hk : k ≤ n) : Sn w s (.slice A k cap) k (xs.take (k * s)) := by
  obtain ⟨A', cap', hv, hcap, hl, hx⟩ := h
  injection hv with hA _ hc
  subst hA hc
  have := Nat.mul_le_mul_right s hk
  refine ⟨_, _, rfl, by omega, by rw [List.length_take]; omega, fun hp => ?_⟩
  obtain ⟨b, off, rfl, hcell⟩ := hx (by omega)
  refine ⟨b, off, rfl, fun j u hj => hcell j u ?_⟩
  rw [List.getElem?_take] at hj
  split at hj
  · exact hj
  · cases hj
theorem ents_take {es : List Ent2} {x : Ent2} (h : ∀ q ∈ es, EntOk q) : (((es ++ [x]).flatMap entP).take (es.length * 33)) = es.flatMap entP := by
  rw [List.flatMap_append, List.take_left' (flatMap_len entP 33 es (fun q hq => entP_length q (h q hq)))]
set_option maxRecDepth 100000 in
set_option maxHeartbeats 4000000 in
theorem slotTorn_any (A : Option Addr) (cap : Nat) (E : List Ent2) (g : Nat) (sync : Bool) (cut : Int) (w : World) (hs : Sn w 33 (.slice A E.length cap) E.length (E.flatMap entP)) (hok : ∀ q ∈ E, EntOk q) (hg : g < 4294967296) (hc : isI64 cut) :
    Calls Try.prog 4 #[.slice A E.length cap, .int .u32 g, .bool sync, .int .i64 cut] w fun e w' => e = .returned (.bool true) ∧ Below w.heap.size w w' := by
  have HS := Lib.hid hs
  have HOK := Lib.hid hok
  have HC := Lib.hid hc
  clear hs hok hc
  by_cases hsm : E.length = 0 ∨ 4 < E.length ∨ g = 0
  · have hb : (((E.length : Int) == 0) = true) ∨ (((E.length : Int) == 0) = false ∧ decide ((4 : Int) < E.length) = true) ∨ (((E.length : Int) == 0) = false ∧ decide ((4 : Int) < E.length) = false ∧ ((g : Int) == 0) = true) := by
      by_cases h1 : E.length = 0
      · left; rw [h1]; rfl
      · by_cases h2 : 4 < E.length
        · right; left; exact ⟨beq_eq_false_iff_ne.2 (by omega), decide_eq_true (by omega)⟩
        · right; right; exact ⟨beq_eq_false_iff_ne.2 (by omega), decide_eq_false (by omega), beq_iff_eq.2 (by omega)⟩
    rcases hb with t1 | ⟨t1, t2⟩ | ⟨t1, t2, t3⟩
    all_goals
      go_enter Try.func4, Try.ntmps4
      go_wp2_with fail
      refine (awake18 w).mono ?_
      rintro e w1 ⟨rfl, hb1⟩
      go_wp2_with fail
      refine (awake18 w1).mono ?_
      rintro e w2 ⟨rfl, hb2⟩
      go_wp2_with fail
      go_ret
      exact ⟨rfl, bstep hb1 hb2⟩
  · have t1 : ((E.length : Int) == 0) = false := beq_eq_false_iff_ne.2 (by omega)
    have t2 : decide ((4 : Int) < E.length) = false := decide_eq_false (by omega)
    have t3 : ((g : Int) == 0) = false := beq_eq_false_iff_ne.2 (by omega)
    have hE1 : 1 ≤ E.length := by omega
    have hE4 : E.length ≤ 4 := by omega
    have hg0 : g ≠ 0 := by omega
    have HLT := Lib.hid (HS.out.blk_lt (by omega) (by omega))
    clear hsm
    go_enter Try.func4, Try.ntmps4
    go_wp2_with fail
    refine (awake18 w).mono ?_
    rintro e w1 ⟨rfl, hb1⟩
    have HS1 := Lib.hid (HS.out.below hb1)
    have HLT1 : Hid (∀ b, (Value.slice A E.length cap).ownBlock = some b → b < w1.heap.size) := Lib.hid (fun b e => Nat.lt_of_lt_of_le (HLT.out b e) hb1.size)
    have HB1 := Lib.hid hb1
    clear hb1 HS HLT
    go_upto_region 3 with fail
    go_wp2_with fail
    clear t1 t2 t3
    go_loopw [9] (fun i wr => ∃ k : Nat, k ≤ E.length ∧ i = .int .i64 k ∧ Hid (∀ q ∈ E.take k, rightE q = true) ∧ Hid (Below w1.heap.size w1 wr)) (fun i _ => E.length - (intOf i).toNat)
    case atStart => exact ⟨0, Nat.zero_le _, rfl, Lib.hid (fun q hq => by simp at hq), Lib.hid (Below.refl _ _)⟩
    case round =>
      obtain ⟨k, hk, rfl, HR, HB⟩ := hrel
      rcases Nat.lt_or_ge k E.length with hlt | hge
      · obtain ⟨b, off, hA, hr⟩ := at_elem entP EntOk 33 entP_length (HS1.out.below HB.out) HOK.out k hlt
        have HRW : Hid (wr.rangeAt b (off + k * 33) (entP E[k])) := Lib.hid hr
        subst hA
        have hqk := HOK.out E[k] (List.getElem_mem hlt)
        have la := entP_length E[k] hqk
        have HQK := Lib.hid hqk
        have HSN : Hid (rightE E[k] = true → ∀ q ∈ E.take (k + 1), rightE q = true) := Lib.hid (fun h q hq => by
          rw [List.take_succ_eq_append_getElem hlt] at hq
          rcases List.mem_append.1 hq with hq | hq
          · exact HR.out q hq
          · rw [List.mem_singleton.1 hq]; exact h)
        obtain ⟨q, hq⟩ : ∃ q, q = E[k] := ⟨_, rfl⟩
        rw [← hq] at HRW la HQK HSN
        have hua : (Try.prog.info? 26).map (·.size) = some (entP q).length := by rw [la]; kernel_rfl
        have hi0 : (0 : Int) ≤ k := by omega
        have hi1 : (k : Int) < E.length := by omega
        clear hqk la hr hq
        go_wp2_with (refine ld 26 _ rfl rfl rfl HRW.out Try.underlying26 rfl hua ?_)
        refine (ref_right q wr HQK.out).mono ?_
        rintro e w2 ⟨rfl, hb2⟩
        have HB2 := Lib.hid (bstep HB.out hb2)
        clear hb2
        cases hrq : rightE q with
        | true =>
          have HSN' := Lib.hid (HSN.out hrq)
          go_wp2_with fail
          exact ⟨⟨k + 1, by omega, by go_num, HSN', HB2⟩, by simp [intOf]; omega⟩
        | false =>
          go_wp2_with fail
          go_ret
          exact ⟨rfl, bstep HB1.out HB2.out⟩
      · obtain rfl : k = E.length := by omega
        have HRA : Hid (∀ q ∈ E, rightE q = true) := Lib.hid (fun q hq => HR.out q (by rw [List.take_length]; exact hq))
        obtain ⟨es, x, hE⟩ : ∃ es x, E = es ++ [x] := ⟨E.dropLast, E.getLast (fun h => by rw [h] at hE1; simp at hE1), (List.dropLast_concat_getLast _).symm⟩
        have hlen : E.length = es.length + 1 := by rw [hE]; simp
        have HE := Lib.hid hE
        have HOKS : Hid ((∀ q ∈ es, EntOk q ∧ rightE q = true) ∧ EntOk x ∧ rightE x = true) := Lib.hid ⟨fun q hq => ⟨HOK.out q (by rw [hE]; simp [hq]), HRA.out q (by rw [hE]; simp [hq])⟩, HOK.out x (by rw [hE]; simp), HRA.out x (by rw [hE]; simp)⟩
        obtain ⟨d1, d2, d4, v1, v2, v3, v4, v5, v6, v7, ents, v8, v9⟩ := torn_vals es x g hg hg0 HOKS.out.1 HOKS.out.2 (by omega) cut (if sync then 2 else 1) (by split <;> simp)
        have V1 := Lib.hid v1
        have V2 := Lib.hid v2
        have V3 := Lib.hid v3
        have V6 := Lib.hid v6
        have V7 := Lib.hid v7
        have V8 := Lib.hid v8
        have V9 := Lib.hid v9
        clear hE v1 v2 v3 v6 v7 v8 v9 HR
        have HSR := Lib.hid (HS1.out.below HB.out)
        have HLR : Hid (∀ b, (Value.slice A E.length cap).ownBlock = some b → b < wr.heap.size) := Lib.hid (fun b e => Nat.lt_of_lt_of_le (HLT1.out b e) HB.out.size)
        have HBR := Lib.hid (bstep HB1.out HB.out)
        clear HS1 HLT1 HB HB1
        go_upto_region 8 with fail
        go_wp2_with fail
        refine (disk_new 5 wr (by omega) (by omega)).mono ?_
        rintro e w3 ⟨m3, rfl, hk3, hb3, hf3⟩
        have HS3 : Hid (St wr w3 m3 (newD 5)) := Lib.hid ⟨hk3, hf3, hb3⟩
        have HL3 := Lib.hid (LS.old HS3.out HSR.out HLR.out)
        clear hk3 hb3 hf3 HSR HLR
        go_upto_region 12 with fail
        obtain ⟨gs, hgs⟩ : ∃ gs, gs = w3.heap.size := ⟨_, rfl⟩
        rw [← hgs]
        obtain ⟨w4, hw4⟩ : ∃ w4, w4 = w3.alloc (.cells #[.int .i64 0, .int .i64 5] 30) := ⟨_, rfl⟩
        have hb4 : Below w3.heap.size w3 w4.drew := by rw [hw4]; exact (bel1 _ _).drew
        have HS4 := Lib.hid (HS3.out.keep hb4)
        have HL4 := Lib.hid (HL3.out.keep hb4)
        have HX4 := Lib.hid (LB.fresh HS3.out.dk (by rw [hgs]; exact Nat.le_refl _) (show Blk w4.drew gs 30 #[.int .i64 0, .int .i64 5] by rw [hw4]; exact (Blk.newAt _ _ _ _ hgs.symm).drewN 1))
        rw [← hw4]
        clear hgs hw4 hb4 HS3 HL3
        go_upto_region 13 with fail
        have HP := Lib.hid (slot_commit 0 5 g w4.drew m3 (newD 5) HS4.out.dk ⟨by decide, by decide⟩ hg (by show 0 + 3 ≤ 100000; omega))
        rw [V1.out, V2.out] at HP
        simp only [valE] at HP
        have hn1 : (es.length : Int) + 1 - 1 = es.length := by omega
        have hA : ∃ b off, A = some ⟨b, off, none⟩ := by
          obtain ⟨_, _, he, _, _, hx⟩ := HL4.out.sn
          injection he with he _ _
          subst he
          obtain ⟨b, off, he, _⟩ := hx (by omega)
          exact ⟨b, off, he⟩
        obtain ⟨b, off, rfl⟩ := hA
        have HCP : Hid (es.length + 1 ≤ cap) := Lib.hid (by
          obtain ⟨_, _, he, hcp, _, _⟩ := HL4.out.sn
          injection he with _ _ he
          omega)
        have HTK : Hid (∀ W, Sn W 33 (.slice (some ⟨b, off, none⟩) E.length cap) E.length (E.flatMap entP) → Sn W 33 (.slice (some ⟨b, off, none⟩) es.length cap) es.length (es.flatMap entP)) := Lib.hid (fun W h => by
          have h2 := h.take es.length (by omega)
          rw [HE.out, ents_take (fun q hq => (HOKS.out.1 q hq).1)] at h2
          exact h2)
        refine held_start 15 (fun w' => w'.rangeAt gs 0 [.int .i64 0, .int .i64 5]) (by kernel_rfl) (by kernel_rfl) (HX4.out.blk.range) (fun hHeld => ?_)
        refine hMove 0 (Operand.tmp 10) (some 51) (.pointer (some ⟨m3.g, 0, none⟩)) (by kernel_rfl) (by kernel_rfl) (by kernel_rfl) (by kernel_rfl) (by kernel_rfl) (fun _ _ _ h => h) (by exact rfl) hHeld ?_
        simp only [Act.put, List.setIfInBounds_toArray, List.set_cons_zero, List.set_cons_succ]
        refine hLoad 1 30 (Operand.tmp 11) (some 52) (cs := [.int .i64 0, .int .i64 5]) (by kernel_rfl) (by kernel_rfl) (by kernel_rfl) (by kernel_rfl) (by kernel_rfl) (fun _ _ _ h => h) (by exact rfl) (fun _ hX => hX) Try.underlying30 rfl (by kernel_rfl) hHeld ?_
        simp only [Act.put, List.setIfInBounds_toArray, List.set_cons_zero, List.set_cons_succ]
        refine hMove 2 (Operand.tmp 1) (some 53) (.int .u32 g) (by kernel_rfl) (by kernel_rfl) (by kernel_rfl) (by kernel_rfl) (by kernel_rfl) (fun _ _ _ h => h) (by exact rfl) hHeld ?_
        simp only [Act.put, List.setIfInBounds_toArray, List.set_cons_zero, List.set_cons_succ]
        refine wpAnyH_ready (rs := [3]) (by kernel_rfl) (by simp) ?_
        refine rCall 3 (Op.call { callee := Callee.value (Operand.func 18), args := #[Operand.tmp 51, Operand.tmp 52, Operand.tmp 53], argTypes := #[34, 30, 39] }) (some 54) 18 (#[.pointer (some ⟨m3.g, 0, none⟩), .agg #[.int .i64 0, .int .i64 5], .int .u32 g]) (by kernel_rfl) (by kernel_rfl) (fun o ho => by unfold execOp; simp only [ho]; go_simp) ?_ AllReadyH.nil
        refine HP.out.mono ?_
        rintro e w5 ⟨rfl, m5, hk5, ht5⟩
        have HS5 := Lib.hid (HS4.out.next hk5 ht5)
        have HL5 := Lib.hid (HL4.out.next ht5)
        have HX5 := Lib.hid (HX4.out.next ht5)
        have hg5 := ht5.g
        clear HS4 HL4 HX4 hk5 ht5 HP
        have HP := Lib.hid (slot_fill 0 5 g es (some ⟨b, off, none⟩) cap w5 m5 d1 HS5.out.dk (HTK.out w5 HL5.out.sn) (fun q hq => (HOKS.out.1 q hq).1) ⟨by omega, by omega⟩ ⟨⟨by decide, by decide⟩, by omega⟩ hg (by omega) (by omega))
        rw [V3.out, hg5] at HP
        simp only [valE] at HP
        refine ⟨_, rfl, HX5.out.blk.range, fun hHeld => ?_⟩
        simp only [Act.put, List.setIfInBounds_toArray, List.set_cons_zero, List.set_cons_succ]
        refine hTake 4 (Op.binOp BinOp.neq 37 (Operand.tmp 54) (Operand.const Value.nilIface) 37) (some 55) (.bool false) (by kernel_rfl) (by kernel_rfl) (by kernel_rfl) (by kernel_rfl) (by kernel_rfl) (fun _ _ _ h => h) (fun o ho wX hX => by unfold execOp; simp only [ho]; go_simp) hHeld ?_
        simp only [Act.put, List.setIfInBounds_toArray, List.set_cons_zero, List.set_cons_succ]
        refine hMove 5 (Operand.tmp 55) (some 56) (.bool false) (by kernel_rfl) (by kernel_rfl) (by kernel_rfl) (by kernel_rfl) (by kernel_rfl) (fun _ _ _ h => h) (by exact rfl) hHeld ?_
        simp only [Act.put, List.setIfInBounds_toArray, List.set_cons_zero, List.set_cons_succ]
        refine hMove 6 (Operand.tmp 10) (some 57) (.pointer (some ⟨m3.g, 0, none⟩)) (by kernel_rfl) (by kernel_rfl) (by kernel_rfl) (by kernel_rfl) (by kernel_rfl) (fun _ _ _ h => h) (by exact rfl) hHeld ?_
        simp only [Act.put, List.setIfInBounds_toArray, List.set_cons_zero, List.set_cons_succ]
        refine hLoad 7 30 (Operand.tmp 11) (some 58) (cs := [.int .i64 0, .int .i64 5]) (by kernel_rfl) (by kernel_rfl) (by kernel_rfl) (by kernel_rfl) (by kernel_rfl) (fun _ _ _ h => h) (by exact rfl) (fun _ hX => hX) Try.underlying30 rfl (by kernel_rfl) hHeld ?_
        simp only [Act.put, List.setIfInBounds_toArray, List.set_cons_zero, List.set_cons_succ]
        refine hMove 8 (Operand.tmp 1) (some 59) (.int .u32 g) (by kernel_rfl) (by kernel_rfl) (by kernel_rfl) (by kernel_rfl) (by kernel_rfl) (fun _ _ _ h => h) (by exact rfl) hHeld ?_
        simp only [Act.put, List.setIfInBounds_toArray, List.set_cons_zero, List.set_cons_succ]
        refine hMove 9 (Operand.tmp 0) (some 60) (.slice (some ⟨b, off, none⟩) (es.length + 1) cap) (by kernel_rfl) (by kernel_rfl) (by kernel_rfl) (by kernel_rfl) (by kernel_rfl) (fun _ _ _ h => h) (by exact rfl) hHeld ?_
        simp only [Act.put, List.setIfInBounds_toArray, List.set_cons_zero, List.set_cons_succ]
        refine hMove 10 (Operand.tmp 12) (some 61) (.int .i64 (es.length : Int)) (by kernel_rfl) (by kernel_rfl) (by kernel_rfl) (by kernel_rfl) (by kernel_rfl) (fun _ _ _ h => h) (by exact rfl) hHeld ?_
        simp only [Act.put, List.setIfInBounds_toArray, List.set_cons_zero, List.set_cons_succ]
        refine hTake 11 (Op.slice 27 (Operand.tmp 60) none (some (Operand.tmp 61)) none) (some 62) (.slice (some ⟨b, off, none⟩) es.length cap) (by kernel_rfl) (by kernel_rfl) (by kernel_rfl) (by kernel_rfl) (by kernel_rfl) (fun _ _ _ h => h) (fun o ho wX hX => by unfold execOp; simp only [ho]; go_simp; intro hh; exfalso; have := HCP.out; omega) hHeld ?_
        simp only [Act.put, List.setIfInBounds_toArray, List.set_cons_zero, List.set_cons_succ]
        refine wpAnyH_ready (rs := [12]) (by kernel_rfl) (by simp) ?_
        refine rCall 12 (Op.call { callee := Callee.value (Operand.func 15), args := #[Operand.tmp 57, Operand.tmp 58, Operand.tmp 59, Operand.tmp 62], argTypes := #[34, 30, 39, 27] }) (some 63) 15 (#[.pointer (some ⟨m3.g, 0, none⟩), .agg #[.int .i64 0, .int .i64 5], .int .u32 g, .slice (some ⟨b, off, none⟩) es.length cap]) (by kernel_rfl) (by kernel_rfl) (fun o ho => by unfold execOp; simp only [ho]; go_simp) ?_ AllReadyH.nil
        refine HP.out.mono ?_
        rintro e w6 ⟨rfl, m6, hk6, ht6⟩
        have HS6 := Lib.hid (HS5.out.next hk6 ht6)
        have HL6 := Lib.hid (HL5.out.next ht6)
        have HX6 := Lib.hid (HX5.out.next ht6)
        have hg6 := ht6.g.trans hg5
        clear HS5 HL5 HX5 hk6 ht6 HP hg5
        refine ⟨_, rfl, HX6.out.blk.range, fun hHeld => ?_⟩
        simp only [Act.put, List.setIfInBounds_toArray, List.set_cons_zero, List.set_cons_succ]
        refine hTake 13 (Op.binOp BinOp.neq 37 (Operand.tmp 63) (Operand.const Value.nilIface) 37) (some 64) (.bool false) (by kernel_rfl) (by kernel_rfl) (by kernel_rfl) (by kernel_rfl) (by kernel_rfl) (fun _ _ _ h => h) (fun o ho wX hX => by unfold execOp; simp only [ho]; go_simp) hHeld ?_
        simp only [Act.put, List.setIfInBounds_toArray, List.set_cons_zero, List.set_cons_succ]
        refine hTake 14 (Op.pick (Operand.tmp 56) (Operand.const (Value.bool true)) (Operand.tmp 64)) (some 65) (.bool false) (by kernel_rfl) (by kernel_rfl) (by kernel_rfl) (by kernel_rfl) (by kernel_rfl) (fun _ _ _ h => h) (fun o ho wX hX => by unfold execOp; simp only [ho]; go_simp) hHeld ?_
        simp only [Act.put, List.setIfInBounds_toArray, List.set_cons_zero, List.set_cons_succ]
        refine wpAnyH_done (by kernel_rfl) ?_ _
        clear hHeld
        have HRX : Hid (∀ W, Sn W 33 (.slice (some ⟨b, off, none⟩) E.length cap) E.length (E.flatMap entP) → W.rangeAt b (off + es.length * 33) (entP x)) := Lib.hid (fun W h => by
          obtain ⟨b', off', he, hr⟩ := at_elem entP EntOk 33 entP_length h HOK.out es.length (by omega)
          injection he with he
          injection he with h1 h2 _
          subst h1 h2
          have hx : E[es.length]'(by omega) = x := by simp [HE.out]
          rw [hx] at hr
          exact hr)
        have hux := entP_length x HOKS.out.2.1
        have HUX : Hid ((Try.prog.info? 26).map (·.size) = some (entP x).length) := Lib.hid (by rw [hux]; kernel_rfl)
        clear hux
        have hcast : ((es.length + 1 : Nat) : Int) = (es.length : Int) + 1 := by omega
        rw [hcast] at V6 V7
        clear hcast
        obtain ⟨kk, hkk⟩ : ∃ kk : Int, kk = if sync then 2 else 1 := ⟨_, rfl⟩
        have hk2 : ((if sync then 2 else 1 : Nat) : Int) = kk := by rw [hkk]; cases sync <;> rfl
        rw [hk2] at V6 V7
        obtain ⟨d3, hd3⟩ : ∃ d3, d3 = planC d2 kk [cut] := ⟨_, rfl⟩
        have hr3 : d3.room ≤ 200 := by
          rw [hd3]
          unfold planC
          split
          · omega
          · show d2.room + 1 ≤ 200; omega
        rw [← hd3] at V6 V7
        clear hk2
        cases sync
        all_goals
          simp only [if_true, if_false, Bool.false_eq_true] at hkk
          subst hkk
          go_upto_region 18 with fail
          obtain ⟨w6b, hw6⟩ : ∃ w6b, w6b = w6.alloc (.cells #[.int .i64 cut] 3) := ⟨_, rfl⟩
          have hsn : Sn w6b 1 (.slice (some ⟨w6.heap.size, 0, none⟩) 1 1) [cut].length (i64s [cut]) := by rw [hw6]; exact Sn.new w6 (i64s [cut]).toArray 3 1 1 rfl
          have hb6 : Below w6.heap.size w6 w6b := by rw [hw6]; exact bel1 _ _
          rw [← hw6]
          have HP := Lib.hid (fun (n : Int) (hn : n ≤ 1000000000) => disk_crashAt n _ [cut] w6b m6 d2 (HS6.out.dk.keep hb6) hsn (by simp) hn (by omega))
          rw [hg6] at HP
          refine (HP.out _ (by omega)).mono ?_
          rintro e w7 ⟨rfl, m7, hk7, ht7⟩
          rw [← hd3] at hk7
          have HS7 := Lib.hid (((HS6.out.keep hb6).next hk7 ht7).keep (Below.refl _ w7).drew)
          have HL7 := Lib.hid (((HL6.out.keep hb6).next ht7).keep (Below.refl _ w7).drew)
          have HX7 := Lib.hid (((HX6.out.keep hb6).next ht7).keep (Below.refl _ w7).drew)
          have hg7 := ht7.g.trans hg6
          have HR7 := Lib.hid (HRX.out _ HL7.out.sn)
          clear hk7 ht7 hb6 hsn hw6 HS6 HL6 HX6 HP hg6
          have HP := Lib.hid (slot_put 0 5 ((es.length : Int) + 1) g x w7.drew m7 d3 HS7.out.dk (by omega) ⟨⟨by decide, by decide⟩, by omega⟩ ⟨by omega, by omega⟩ hg HOKS.out.2.1 (by omega))
          rw [V6.out, V7.out, hg7] at HP
          go_upto_region 18 with fail
          refine held_start 12 (fun w' => w'.rangeAt gs 0 [.int .i64 0, .int .i64 5] ∧ w'.rangeAt b (off + es.length * 33) (entP x)) (by kernel_rfl) (by kernel_rfl) (⟨HX7.out.blk.range, HR7.out⟩) (fun hHeld => ?_)
          refine hMove 0 (Operand.tmp 10) (some 75) (.pointer (some ⟨m3.g, 0, none⟩)) (by kernel_rfl) (by kernel_rfl) (by kernel_rfl) (by kernel_rfl) (by kernel_rfl) (fun _ _ _ h => h) (by exact rfl) hHeld ?_
          simp only [Act.put, List.setIfInBounds_toArray, List.set_cons_zero, List.set_cons_succ]
          refine hLoad 1 30 (Operand.tmp 11) (some 76) (cs := [.int .i64 0, .int .i64 5]) (by kernel_rfl) (by kernel_rfl) (by kernel_rfl) (by kernel_rfl) (by kernel_rfl) (fun _ _ _ h => h) (by exact rfl) (fun _ hX => hX.1) Try.underlying30 rfl (by kernel_rfl) hHeld ?_
          simp only [Act.put, List.setIfInBounds_toArray, List.set_cons_zero, List.set_cons_succ]
          refine hMove 2 (Operand.tmp 12) (some 77) (.int .i64 (es.length : Int)) (by kernel_rfl) (by kernel_rfl) (by kernel_rfl) (by kernel_rfl) (by kernel_rfl) (fun _ _ _ h => h) (by exact rfl) hHeld ?_
          simp only [Act.put, List.setIfInBounds_toArray, List.set_cons_zero, List.set_cons_succ]
          refine hTake 3 (Op.binOp BinOp.add 3 (Operand.tmp 77) (Operand.const (Value.int IntKind.i64 1)) 3) (some 78) (.int .i64 ((es.length : Int) + 1)) (by kernel_rfl) (by kernel_rfl) (by kernel_rfl) (by kernel_rfl) (by kernel_rfl) (fun _ _ _ h => h) (fun o ho wX hX => by unfold execOp; simp only [ho]; go_simp; exact IntWalk.i64_in _ (by omega)) hHeld ?_
          simp only [Act.put, List.setIfInBounds_toArray, List.set_cons_zero, List.set_cons_succ]
          refine hMove 4 (Operand.tmp 1) (some 79) (.int .u32 g) (by kernel_rfl) (by kernel_rfl) (by kernel_rfl) (by kernel_rfl) (by kernel_rfl) (fun _ _ _ h => h) (by exact rfl) hHeld ?_
          simp only [Act.put, List.setIfInBounds_toArray, List.set_cons_zero, List.set_cons_succ]
          refine hMove 5 (Operand.tmp 0) (some 80) (.slice (some ⟨b, off, none⟩) (es.length + 1) cap) (by kernel_rfl) (by kernel_rfl) (by kernel_rfl) (by kernel_rfl) (by kernel_rfl) (fun _ _ _ h => h) (by exact rfl) hHeld ?_
          simp only [Act.put, List.setIfInBounds_toArray, List.set_cons_zero, List.set_cons_succ]
          refine hMove 6 (Operand.tmp 12) (some 81) (.int .i64 (es.length : Int)) (by kernel_rfl) (by kernel_rfl) (by kernel_rfl) (by kernel_rfl) (by kernel_rfl) (fun _ _ _ h => h) (by exact rfl) hHeld ?_
          simp only [Act.put, List.setIfInBounds_toArray, List.set_cons_zero, List.set_cons_succ]
          refine hTake 7 (Op.indexAddr 27 (Operand.tmp 80) (Operand.tmp 81)) (some 82) (.pointer (some ⟨b, off + es.length * 33, none⟩)) (by kernel_rfl) (by kernel_rfl) (by kernel_rfl) (by kernel_rfl) (by kernel_rfl) (fun _ _ _ h => h) (fun o ho wX hX => by unfold execOp; simp only [ho]; go_simp; intro hh; exfalso; omega) hHeld ?_
          simp only [Act.put, List.setIfInBounds_toArray, List.set_cons_zero, List.set_cons_succ]
          refine hLoad 8 26 (Operand.tmp 82) (some 83) (cs := entP x) (by kernel_rfl) (by kernel_rfl) (by kernel_rfl) (by kernel_rfl) (by kernel_rfl) (fun _ _ _ h => h) (by exact rfl) (fun _ hX => hX.2) Try.underlying26 rfl HUX.out hHeld ?_
          simp only [Act.put, List.setIfInBounds_toArray, List.set_cons_zero, List.set_cons_succ]
          refine wpAnyH_ready (rs := [9]) (by kernel_rfl) (by simp) ?_
          refine rCall 9 (Op.call { callee := Callee.value (Operand.func 11), args := #[Operand.tmp 75, Operand.tmp 76, Operand.tmp 78, Operand.tmp 79, Operand.tmp 83], argTypes := #[34, 30, 3, 39, 26] }) (some 84) 11 (#[.pointer (some ⟨m3.g, 0, none⟩), .agg #[.int .i64 0, .int .i64 5], .int .i64 ((es.length : Int) + 1), .int .u32 g, .agg (entP x).toArray]) (by kernel_rfl) (by kernel_rfl) (fun o ho => by unfold execOp; simp only [ho]; go_simp) ?_ AllReadyH.nil
          refine HP.out.mono ?_
          rintro e w8 ⟨rfl, m8, hk8, ht8⟩
          have HS8 := Lib.hid (HS7.out.next hk8 ht8)
          have HL8 := Lib.hid (HL7.out.next ht8)
          have HX8 := Lib.hid (HX7.out.next ht8)
          have hg8 := ht8.g.trans hg7
          clear HS7 HL7 HX7 hk8 ht8 HP hg7
          refine ⟨_, rfl, ⟨HX8.out.blk.range, HRX.out w8 HL8.out.sn⟩, fun hHeld => ?_⟩
          simp only [Act.put, List.setIfInBounds_toArray, List.set_cons_zero, List.set_cons_succ]
          refine wpAnyH_ready (rs := [10]) (by kernel_rfl) (by simp) ?_
          refine rCall 10 (Op.call { callee := Callee.value (Operand.func 13), args := #[Operand.tmp 84], argTypes := #[37] }) (some 85) 13 (#[valE (some (12, none))]) (by kernel_rfl) (by kernel_rfl) (fun o ho => by unfold execOp; simp only [ho]; go_simp) ?_ AllReadyH.nil
          refine (code18 (some (12, none)) w8 ⟨by decide, by decide⟩).mono ?_
          rintro e w9 ⟨rfl, hb9⟩
          have HS9 := Lib.hid (HS8.out.keep hb9)
          have HL9 := Lib.hid (HL8.out.keep hb9)
          have HX9 := Lib.hid (HX8.out.keep hb9)
          clear HS8 HL8 HX8 hb9
          refine ⟨_, rfl, ⟨HX9.out.blk.range, HRX.out w9 HL9.out.sn⟩, fun hHeld => ?_⟩
          simp only [Act.put, List.setIfInBounds_toArray, List.set_cons_zero, List.set_cons_succ]
          refine hTake 11 (Op.binOp BinOp.neq 3 (Operand.tmp 85) (Operand.const (Value.int IntKind.i64 12)) 3) (some 86) (.bool false) (by kernel_rfl) (by kernel_rfl) (by kernel_rfl) (by kernel_rfl) (by kernel_rfl) (fun _ _ _ h => h) (fun o ho wX hX => by unfold execOp; simp only [ho]; go_simp; rfl) hHeld ?_
          simp only [Act.put, List.setIfInBounds_toArray, List.set_cons_zero, List.set_cons_succ]
          refine wpAnyH_done (by kernel_rfl) ?_ _
          clear hHeld
          go_upto_region 20 with fail
          go_wp2_with fail
          refine (show Calls Try.prog 20 #[.pointer (some ⟨m3.g, 0, none⟩)] w9 _ from hg8 ▸ disk_start w9 m8 d4 HS9.out.dk).mono ?_
          rintro e w10 ⟨rfl, hk10, ht10⟩
          have HS10 := Lib.hid (HS9.out.next hk10 ht10)
          have HL10 := Lib.hid (HL9.out.next ht10)
          have HX10 := Lib.hid (HX9.out.next ht10)
          clear hk10 ht10 HS9 HL9 HX9
          have HP := Lib.hid (slot_scan 0 5 w10 m8 (startD d4) HS10.out.dk (by omega) (by omega))
          rw [V8.out, hg8] at HP
          simp only [valE] at HP
          have hr1 := HX10.out.blk.range
          rw [List.toList_toArray] at hr1
          go_upto_region 22 with (first
            | (refine ld 30 _ rfl rfl rfl hr1 Try.underlying30 rfl (by kernel_rfl) ?_)
            | (go_at_call 21; refine HP.out.mono ?_; rintro e w11 ⟨hb11, v11, rfl, ho11, hq11⟩; obtain ⟨A11, c11, rfl, _, _, _⟩ := id (Sn.own ho11))
            | (refine al 56 stZ rfl rfl zeroS ?_)
            | (refine stNew (cells := stC (some g, ents) (.slice A11 ents.length c11)) 56 (.tmp 13) (.tmp 93) rfl rfl (by rfl) (by rfl) (by kernel_rfl) (by rfl) (stC_one _ _ _ _) ?_; intro w12 hK12 hb12 _))
          have hb1012 : Below w10.heap.size w10 w12 := bstep hb11 hb12
          have HVL := Lib.hid (((LS.own HS10.out.dk ho11).sn).below hb12)
          have HLW := Lib.hid (HL10.out.sn.below hb1012)
          have HBW' := Lib.hid (bstep HBR.out (HS10.out.keep hb1012).bel)
          have HT12 := Lib.hid (show Blk w12 w11.heap.size 56 (stC (some g, ents) (.slice A11 ents.length c11)) from hK12)
          have HOKN := Lib.hid hq11
          obtain ⟨gt, hgt⟩ : ∃ gt, gt = w11.heap.size := ⟨_, rfl⟩
          rw [← hgt] at HT12 ⊢
          clear hb11 hb12 hK12 hb1012 ho11 hq11 hgt HS10 HL10 HX10 HP hr1
          have c1 := HT12.out.cell 0
          have c2 := HT12.out.cell 1
          have c3 := HT12.out.cell 2
          simp only [stC, List.getElem?_toArray, List.getElem?_cons_zero, List.getElem?_cons_succ] at c1 c2 c3
          simp only [Option.isSome_some, Option.getD_some] at c1 c2
          have HC12 : Hid (w12.drew.cell? ⟨gt, 2, none⟩ = some (.slice A11 ents.length c11)) := Lib.hid c3
          have HVE : Hid (Sn w12.drew 33 (.slice A11 ents.length c11) ents.length (ents.flatMap entP)) := Lib.hid (HVL.out.below (Below.refl _ _).drew)
          have HLE : Hid (Sn w12.drew 33 (.slice (some ⟨b, off, none⟩) (es.length + 1) cap) E.length (E.flatMap entP)) := Lib.hid (by
            have := HLW.out.below (Below.refl _ w12).drew
            rw [hlen] at this ⊢
            exact this)
          have HBW : Hid (Below w.heap.size w w12.drew) := Lib.hid HBW'.out.drew
          rcases V9.out with h9 | ⟨hcut, h9⟩
          · have hel : ents.length ≤ 5 := by rw [h9]; simp; omega
            have HD1 : Hid (decide (ents = E) = true) := Lib.hid (by rw [h9, HE.out]; simp)
            clear h9
            go_upto_region 24 with fail
            refine held_start 17 (fun w' => w'.cell? ⟨gt, 2, none⟩ = some (.slice A11 ents.length c11)) (by kernel_rfl) (by kernel_rfl) (HC12.out) (fun hHeld => ?_)
            refine hTake 0 (Op.fieldAddr 56 (Operand.tmp 13) 2) (some 108) (.pointer (some ⟨gt, 2, none⟩)) (by kernel_rfl) (by kernel_rfl) (by kernel_rfl) (by kernel_rfl) (by kernel_rfl) (fun _ _ _ h => h) (fun o ho wX hX => by unfold execOp; simp only [ho]; go_simp) hHeld ?_
            simp only [Act.put, List.setIfInBounds_toArray, List.set_cons_zero, List.set_cons_succ]
            refine hTake 1 (Op.load 27 (Operand.tmp 108)) (some 109) (.slice A11 ents.length c11) (by kernel_rfl) (by kernel_rfl) (by kernel_rfl) (by kernel_rfl) (by kernel_rfl) (fun _ _ _ h => h) (fun o ho wX hX => by have hcell := hX; unfold execOp; simp only [ho]; go_simp) hHeld ?_
            simp only [Act.put, List.setIfInBounds_toArray, List.set_cons_zero, List.set_cons_succ]
            refine hMove 2 (Operand.tmp 0) (some 110) (.slice (some ⟨b, off, none⟩) (es.length + 1) cap) (by kernel_rfl) (by kernel_rfl) (by kernel_rfl) (by kernel_rfl) (by kernel_rfl) (fun _ _ _ h => h) (by exact rfl) hHeld ?_
            simp only [Act.put, List.setIfInBounds_toArray, List.set_cons_zero, List.set_cons_succ]
            refine wpAnyH_ready (rs := [3]) (by kernel_rfl) (by simp) ?_
            refine rCall 3 (Op.call { callee := Callee.value (Operand.func 22), args := #[Operand.tmp 109, Operand.tmp 110], argTypes := #[27, 27] }) (some 111) 22 (#[.slice A11 ents.length c11, .slice (some ⟨b, off, none⟩) (es.length + 1) cap]) (by kernel_rfl) (by kernel_rfl) (fun o ho => by unfold execOp; simp only [ho]; go_simp) ?_ AllReadyH.nil
            refine (same_any _ _ ents E _ HVE.out HOKN.out HLE.out HOK.out (by omega) (by omega)).mono ?_
            rintro e w14 ⟨rfl, hb14⟩
            have HB14 := Lib.hid (bstep HBW.out hb14)
            have HVE14 := Lib.hid (HVE.out.below hb14)
            have HLE14 := Lib.hid (HLE.out.below hb14)
            rw [HD1.out]
            refine ⟨_, rfl, Below.cell' hb14 hHeld, fun hHeld => ?_⟩
            simp only [Act.put, List.setIfInBounds_toArray, List.set_cons_zero, List.set_cons_succ]
            refine hMove 4 (Operand.tmp 111) (some 112) (.bool true) (by kernel_rfl) (by kernel_rfl) (by kernel_rfl) (by kernel_rfl) (by kernel_rfl) (fun _ _ _ h => h) (by exact rfl) hHeld ?_
            simp only [Act.put, List.setIfInBounds_toArray, List.set_cons_zero, List.set_cons_succ]
            refine hSkip 5 (some 113) (by kernel_rfl) (by kernel_rfl) (by kernel_rfl) (by kernel_rfl) (by kernel_rfl) (fun _ _ _ h => h) hHeld ?_
            simp only [Act.put, List.setIfInBounds_toArray, List.set_cons_zero, List.set_cons_succ]
            refine hSkip 6 (some 114) (by kernel_rfl) (by kernel_rfl) (by kernel_rfl) (by kernel_rfl) (by kernel_rfl) (fun _ _ _ h => h) hHeld ?_
            simp only [Act.put, List.setIfInBounds_toArray, List.set_cons_zero, List.set_cons_succ]
            refine hSkip 7 (some 115) (by kernel_rfl) (by kernel_rfl) (by kernel_rfl) (by kernel_rfl) (by kernel_rfl) (fun _ _ _ h => h) hHeld ?_
            simp only [Act.put, List.setIfInBounds_toArray, List.set_cons_zero, List.set_cons_succ]
            refine hSkip 8 (some 116) (by kernel_rfl) (by kernel_rfl) (by kernel_rfl) (by kernel_rfl) (by kernel_rfl) (fun _ _ _ h => h) hHeld ?_
            simp only [Act.put, List.setIfInBounds_toArray, List.set_cons_zero, List.set_cons_succ]
            refine hSkip 9 (some 117) (by kernel_rfl) (by kernel_rfl) (by kernel_rfl) (by kernel_rfl) (by kernel_rfl) (fun _ _ _ h => h) hHeld ?_
            simp only [Act.put, List.setIfInBounds_toArray, List.set_cons_zero, List.set_cons_succ]
            refine hSkip 10 (some 118) (by kernel_rfl) (by kernel_rfl) (by kernel_rfl) (by kernel_rfl) (by kernel_rfl) (fun _ _ _ h => h) hHeld ?_
            simp only [Act.put, List.setIfInBounds_toArray, List.set_cons_zero, List.set_cons_succ]
            refine hSkip 11 (some 119) (by kernel_rfl) (by kernel_rfl) (by kernel_rfl) (by kernel_rfl) (by kernel_rfl) (fun _ _ _ h => h) hHeld ?_
            simp only [Act.put, List.setIfInBounds_toArray, List.set_cons_zero, List.set_cons_succ]
            refine hSkip 12 (some 120) (by kernel_rfl) (by kernel_rfl) (by kernel_rfl) (by kernel_rfl) (by kernel_rfl) (fun _ _ _ h => h) hHeld ?_
            simp only [Act.put, List.setIfInBounds_toArray, List.set_cons_zero, List.set_cons_succ]
            refine hSkip 13 (some 121) (by kernel_rfl) (by kernel_rfl) (by kernel_rfl) (by kernel_rfl) (by kernel_rfl) (fun _ _ _ h => h) hHeld ?_
            simp only [Act.put, List.setIfInBounds_toArray, List.set_cons_zero, List.set_cons_succ]
            refine hSkip 14 (some 122) (by kernel_rfl) (by kernel_rfl) (by kernel_rfl) (by kernel_rfl) (by kernel_rfl) (fun _ _ _ h => h) hHeld ?_
            simp only [Act.put, List.setIfInBounds_toArray, List.set_cons_zero, List.set_cons_succ]
            refine hTake 15 (Op.pick (Operand.tmp 112) (Operand.const (Value.bool true)) (Operand.tmp 122)) (some 123) (.bool true) (by kernel_rfl) (by kernel_rfl) (by kernel_rfl) (by kernel_rfl) (by kernel_rfl) (fun _ _ _ h => h) (fun o ho wX hX => by unfold execOp; simp only [ho]; go_simp) hHeld ?_
            simp only [Act.put, List.setIfInBounds_toArray, List.set_cons_zero, List.set_cons_succ]
            refine hTake 16 (Op.assign (Operand.tmp 123)) (some 8) (.bool true) (by kernel_rfl) (by kernel_rfl) (by kernel_rfl) (by kernel_rfl) (by kernel_rfl) (fun _ _ _ h => h) (fun o ho wX hX => by unfold execOp; simp only [ho]; go_simp) hHeld ?_
            simp only [Act.put, List.setIfInBounds_toArray, List.set_cons_zero, List.set_cons_succ]
            refine wpAnyH_done (by kernel_rfl) ?_ _
            clear hHeld
            go_wp2_with fail
            go_ret
            exact ⟨rfl, HB14.out⟩
          · have hel : ents.length ≤ 5 := by rw [h9]; omega
            have HD1 : Hid (decide (ents = E) = false) := Lib.hid (decide_eq_false (fun h => by have := congrArg List.length h; rw [h9] at this; omega))
            have HD2 : Hid (decide (ents = es) = true) := Lib.hid (by rw [h9]; simp)
            have HCUT : Hid (decide (cut < 64) = true) := Lib.hid (decide_eq_true hcut)
            clear h9 hcut
            go_upto_region 24 with fail
            refine held_start 17 (fun w' => w'.cell? ⟨gt, 2, none⟩ = some (.slice A11 ents.length c11)) (by kernel_rfl) (by kernel_rfl) (HC12.out) (fun hHeld => ?_)
            refine hTake 0 (Op.fieldAddr 56 (Operand.tmp 13) 2) (some 108) (.pointer (some ⟨gt, 2, none⟩)) (by kernel_rfl) (by kernel_rfl) (by kernel_rfl) (by kernel_rfl) (by kernel_rfl) (fun _ _ _ h => h) (fun o ho wX hX => by unfold execOp; simp only [ho]; go_simp) hHeld ?_
            simp only [Act.put, List.setIfInBounds_toArray, List.set_cons_zero, List.set_cons_succ]
            refine hTake 1 (Op.load 27 (Operand.tmp 108)) (some 109) (.slice A11 ents.length c11) (by kernel_rfl) (by kernel_rfl) (by kernel_rfl) (by kernel_rfl) (by kernel_rfl) (fun _ _ _ h => h) (fun o ho wX hX => by have hcell := hX; unfold execOp; simp only [ho]; go_simp) hHeld ?_
            simp only [Act.put, List.setIfInBounds_toArray, List.set_cons_zero, List.set_cons_succ]
            refine hMove 2 (Operand.tmp 0) (some 110) (.slice (some ⟨b, off, none⟩) (es.length + 1) cap) (by kernel_rfl) (by kernel_rfl) (by kernel_rfl) (by kernel_rfl) (by kernel_rfl) (fun _ _ _ h => h) (by exact rfl) hHeld ?_
            simp only [Act.put, List.setIfInBounds_toArray, List.set_cons_zero, List.set_cons_succ]
            refine wpAnyH_ready (rs := [3]) (by kernel_rfl) (by simp) ?_
            refine rCall 3 (Op.call { callee := Callee.value (Operand.func 22), args := #[Operand.tmp 109, Operand.tmp 110], argTypes := #[27, 27] }) (some 111) 22 (#[.slice A11 ents.length c11, .slice (some ⟨b, off, none⟩) (es.length + 1) cap]) (by kernel_rfl) (by kernel_rfl) (fun o ho => by unfold execOp; simp only [ho]; go_simp) ?_ AllReadyH.nil
            refine (same_any _ _ ents E _ HVE.out HOKN.out HLE.out HOK.out (by omega) (by omega)).mono ?_
            rintro e w14 ⟨rfl, hb14⟩
            have HB14 := Lib.hid (bstep HBW.out hb14)
            have HVE14 := Lib.hid (HVE.out.below hb14)
            have HLE14 := Lib.hid (HLE.out.below hb14)
            rw [HD1.out]
            refine ⟨_, rfl, Below.cell' hb14 hHeld, fun hHeld => ?_⟩
            simp only [Act.put, List.setIfInBounds_toArray, List.set_cons_zero, List.set_cons_succ]
            refine hMove 4 (Operand.tmp 111) (some 112) (.bool false) (by kernel_rfl) (by kernel_rfl) (by kernel_rfl) (by kernel_rfl) (by kernel_rfl) (fun _ _ _ h => h) (by exact rfl) hHeld ?_
            simp only [Act.put, List.setIfInBounds_toArray, List.set_cons_zero, List.set_cons_succ]
            refine hMove 5 (Operand.tmp 3) (some 113) (.int .i64 cut) (by kernel_rfl) (by kernel_rfl) (by kernel_rfl) (by kernel_rfl) (by kernel_rfl) (fun _ _ _ h => h) (by exact rfl) hHeld ?_
            simp only [Act.put, List.setIfInBounds_toArray, List.set_cons_zero, List.set_cons_succ]
            refine hTake 6 (Op.binOp BinOp.lss 3 (Operand.tmp 113) (Operand.const (Value.int IntKind.i64 64)) 3) (some 114) (.bool true) (by kernel_rfl) (by kernel_rfl) (by kernel_rfl) (by kernel_rfl) (by kernel_rfl) (fun _ _ _ h => h) (fun o ho wX hX => by have hcut := HCUT.out; unfold execOp; simp only [ho]; go_simp) hHeld ?_
            simp only [Act.put, List.setIfInBounds_toArray, List.set_cons_zero, List.set_cons_succ]
            refine hMove 7 (Operand.tmp 114) (some 115) (.bool true) (by kernel_rfl) (by kernel_rfl) (by kernel_rfl) (by kernel_rfl) (by kernel_rfl) (fun _ _ _ h => h) (by exact rfl) hHeld ?_
            simp only [Act.put, List.setIfInBounds_toArray, List.set_cons_zero, List.set_cons_succ]
            refine hTake 8 (Op.fieldAddr 56 (Operand.tmp 13) 2) (some 116) (.pointer (some ⟨gt, 2, none⟩)) (by kernel_rfl) (by kernel_rfl) (by kernel_rfl) (by kernel_rfl) (by kernel_rfl) (fun _ _ _ h => h) (fun o ho wX hX => by unfold execOp; simp only [ho]; go_simp) hHeld ?_
            simp only [Act.put, List.setIfInBounds_toArray, List.set_cons_zero, List.set_cons_succ]
            refine hTake 9 (Op.load 27 (Operand.tmp 116)) (some 117) (.slice A11 ents.length c11) (by kernel_rfl) (by kernel_rfl) (by kernel_rfl) (by kernel_rfl) (by kernel_rfl) (fun _ _ _ h => h) (fun o ho wX hX => by have hcell := hX; unfold execOp; simp only [ho]; go_simp) hHeld ?_
            simp only [Act.put, List.setIfInBounds_toArray, List.set_cons_zero, List.set_cons_succ]
            refine hMove 10 (Operand.tmp 0) (some 118) (.slice (some ⟨b, off, none⟩) (es.length + 1) cap) (by kernel_rfl) (by kernel_rfl) (by kernel_rfl) (by kernel_rfl) (by kernel_rfl) (fun _ _ _ h => h) (by exact rfl) hHeld ?_
            simp only [Act.put, List.setIfInBounds_toArray, List.set_cons_zero, List.set_cons_succ]
            refine hMove 11 (Operand.tmp 12) (some 119) (.int .i64 (es.length : Int)) (by kernel_rfl) (by kernel_rfl) (by kernel_rfl) (by kernel_rfl) (by kernel_rfl) (fun _ _ _ h => h) (by exact rfl) hHeld ?_
            simp only [Act.put, List.setIfInBounds_toArray, List.set_cons_zero, List.set_cons_succ]
            refine hTake 12 (Op.slice 27 (Operand.tmp 118) none (some (Operand.tmp 119)) none) (some 120) (.slice (some ⟨b, off, none⟩) es.length cap) (by kernel_rfl) (by kernel_rfl) (by kernel_rfl) (by kernel_rfl) (by kernel_rfl) (fun _ _ _ h => h) (fun o ho wX hX => by unfold execOp; simp only [ho]; go_simp; intro hh; exfalso; have := HCP.out; omega) hHeld ?_
            simp only [Act.put, List.setIfInBounds_toArray, List.set_cons_zero, List.set_cons_succ]
            refine wpAnyH_ready (rs := [13]) (by kernel_rfl) (by simp) ?_
            refine rCall 13 (Op.call { callee := Callee.value (Operand.func 22), args := #[Operand.tmp 117, Operand.tmp 120], argTypes := #[27, 27] }) (some 121) 22 (#[.slice A11 ents.length c11, .slice (some ⟨b, off, none⟩) es.length cap]) (by kernel_rfl) (by kernel_rfl) (fun o ho => by unfold execOp; simp only [ho]; go_simp) ?_ AllReadyH.nil
            refine (same_any _ _ ents es _ HVE14.out HOKN.out (HTK.out _ (by have h := HLE14.out; rw [hlen] at h ⊢; exact h)) (fun q hq => (HOKS.out.1 q hq).1) (by omega) (by omega)).mono ?_
            rintro e w15 ⟨rfl, hb15⟩
            have HB15 := Lib.hid (bstep HB14.out hb15)
            rw [HD2.out]
            refine ⟨_, rfl, Below.cell' hb15 hHeld, fun hHeld => ?_⟩
            simp only [Act.put, List.setIfInBounds_toArray, List.set_cons_zero, List.set_cons_succ]
            refine hTake 14 (Op.pick (Operand.tmp 115) (Operand.tmp 121) (Operand.const (Value.bool false))) (some 122) (.bool true) (by kernel_rfl) (by kernel_rfl) (by kernel_rfl) (by kernel_rfl) (by kernel_rfl) (fun _ _ _ h => h) (fun o ho wX hX => by unfold execOp; simp only [ho]; go_simp) hHeld ?_
            simp only [Act.put, List.setIfInBounds_toArray, List.set_cons_zero, List.set_cons_succ]
            refine hTake 15 (Op.pick (Operand.tmp 112) (Operand.const (Value.bool true)) (Operand.tmp 122)) (some 123) (.bool true) (by kernel_rfl) (by kernel_rfl) (by kernel_rfl) (by kernel_rfl) (by kernel_rfl) (fun _ _ _ h => h) (fun o ho wX hX => by unfold execOp; simp only [ho]; go_simp) hHeld ?_
            simp only [Act.put, List.setIfInBounds_toArray, List.set_cons_zero, List.set_cons_succ]
            refine hTake 16 (Op.assign (Operand.tmp 123)) (some 8) (.bool true) (by kernel_rfl) (by kernel_rfl) (by kernel_rfl) (by kernel_rfl) (by kernel_rfl) (fun _ _ _ h => h) (fun o ho wX hX => by unfold execOp; simp only [ho]; go_simp) hHeld ?_
            simp only [Act.put, List.setIfInBounds_toArray, List.set_cons_zero, List.set_cons_succ]
            refine wpAnyH_done (by kernel_rfl) ?_ _
            clear hHeld
            go_wp2_with fail
            go_ret
            exact ⟨rfl, HB15.out⟩
end Go.Proofs.Ytpkcddnclifcpaa
