/- The law AuditFirst: its walk. -/
import Derived.Test.YtmhckcghfikeiaaDoorLaw27c
import Derived.Test.YtmhckcghfikeiaaDoorRef27
namespace Go.Proofs.YtmhckcghfikeiaaDoor
open Go.RowKit
set_option linter.unusedSimpArgs false

theorem firstAt_drop (rule : ByteArray) (F : List (Nat × Nat)) (k : Nat) (h : k < F.length) : firstAt rule (F.drop k) = if ruleN F[k].1 = rule then (F[k].2 : Int) else firstAt rule (F.drop (k + 1)) := by
  rw [List.drop_eq_getElem_cons h]
  rfl
theorem firstAt_i64 (rule : ByteArray) : ∀ (F : List (Nat × Nat)), (∀ f ∈ F, f.2 < 1000) → isI64 (firstAt rule F)
  | [], _ => by simp [firstAt, isI64]
  | f :: F, h => by
    have hf := h f (by simp)
    unfold firstAt
    split
    · unfold isI64; omega
    · exact firstAt_i64 rule F fun g hg => h g (by simp [hg])
def five : List ByteArray := [ruleN 0, ruleN 1, ruleN 2, ruleN 3, ruleN 4]
theorem names_five : names 5 = strs five := rfl

set_option maxRecDepth 100000 in
set_option maxHeartbeats 4000000 in
theorem firstLaw_any (skew : Int) (rule : ByteArray) (l : List RowD) (A : Option Addr) (cap : Nat) (w : World) (ht : Tab w) (hs : Sn w 36 (.slice A l.length cap) l.length (l.flatMap rowC)) (hok : ∀ r ∈ l, RowOk r) (hm : l.length ≤ 9223372036854775807) (hsk : isI64 skew) :
    Calls Tryd.prog 4 #[.int .i64 skew, .slice A l.length cap, .string rule] w fun e w' => e = .returned (.bool true) ∧ Below w.heap.size w w' := by
  have HS := Lib.hid hs
  have HOK := Lib.hid hok
  have HT := Lib.hid ht
  clear hs hok ht
  rcases Bool.eq_false_or_eq_true (fewB skew l) with d1 | d1
  rotate_left 1
  · go_enter Tryd.func4, Tryd.ntmps4
    go_wp2_with fail
    refine (awake_any w HT.out).mono ?_
    rintro e w1 ⟨rfl, hb1⟩
    have HB1 := Lib.hid hb1
    clear hb1
    go_wp2_with fail
    refine (few_any skew l A cap w1 (HS.out.below HB1.out) HOK.out hm).mono ?_
    rintro e w2 ⟨rfl, hw2⟩
    rw [hw2]
    clear hw2
    go_wp2_with fail
    refine (awake_any w1 (HT.out.below HB1.out)).mono ?_
    rintro e w2 ⟨rfl, hb2⟩
    have HB2 := Lib.hid hb2
    clear hb2
    go_wp2_with fail
    go_ret
    exact ⟨rfl, bstep HB1.out HB2.out⟩
  · have hl60 : l.length ≤ 60 := by
      unfold fewB at d1
      simp only [Bool.and_eq_true, decide_eq_true_eq] at d1
      omega
    have HLV : Hid (∀ r ∈ l, -1099511627776 ≤ r.live ∧ r.live ≤ 1099511627776) := Lib.hid (by
      intro r hr
      unfold fewB at d1
      simp only [Bool.and_eq_true, List.all_eq_true] at d1
      have h := d1.1 r hr
      unfold liveOk at h
      simp only [Bool.not_eq_true', Bool.or_eq_false_iff, decide_eq_false_iff_not] at h
      omega)
    rcases Bool.eq_false_or_eq_true (decide ((50 : Int) < rule.size)) with d2 | d2
    · go_enter Tryd.func4, Tryd.ntmps4
      go_wp2_with fail
      refine (awake_any w HT.out).mono ?_
      rintro e w1 ⟨rfl, hb1⟩
      have HB1 := Lib.hid hb1
      clear hb1
      go_wp2_with fail
      refine (few_any skew l A cap w1 (HS.out.below HB1.out) HOK.out hm).mono ?_
      rintro e w2 ⟨rfl, hw2⟩
      rw [hw2]
      clear hw2
      go_wp2_with fail
      refine (awake_any w1 (HT.out.below HB1.out)).mono ?_
      rintro e w2 ⟨rfl, hb2⟩
      have HB2 := Lib.hid hb2
      clear hb2
      go_wp2_with fail
      go_ret
      exact ⟨rfl, bstep HB1.out HB2.out⟩
    · go_enter Tryd.func4, Tryd.ntmps4
      go_wp2_with fail
      refine (awake_any w HT.out).mono ?_
      rintro e w1 ⟨rfl, hb1⟩
      have HB1 := Lib.hid hb1
      clear hb1
      go_wp2_with fail
      refine (few_any skew l A cap w1 (HS.out.below HB1.out) HOK.out hm).mono ?_
      rintro e w2 ⟨rfl, hw2⟩
      rw [hw2]
      clear hw2
      go_wp2_with fail
      refine (ref_find_any skew l A cap w1 (HS.out.below HB1.out) HOK.out hsk hl60 HLV.out).mono ?_
      rintro e w3 ⟨v3, rfl, hown3, hb3⟩
      obtain ⟨A3, c3, e3, hs3, hi3⟩ := own_slice hown3
      subst e3
      obtain ⟨F, hF⟩ : ∃ F, F = findL skew l := ⟨_, rfl⟩
      rw [← hF] at hs3
      rw [← hF]
      have HS3 := Lib.hid hs3
      have HB3 := Lib.hid (bstep HB1.out hb3)
      have hFl : F.length ≤ 300 := by rw [hF]; have := findL_len skew l; omega
      have HFK : Hid (∀ f ∈ F, f.2 < 1000) := Lib.hid (by rw [hF]; intro f hf; have := (findK_at skew l l.length f hf).2; omega)
      have HF := Lib.hid hF
      clear hown3 hs3 hi3 hb3 hF
      have hf0 : (0 : Int) ≤ F.length := by omega
      have y0 : IntKind.i64.wrap ((F.length : Int) - 1) = (F.length : Int) - 1 := IntWalk.i64_in _ (by omega)
      go_wp2_with fail
      go_loopw [7, 9] (fun m i wr => ∃ k : Nat, k ≤ F.length ∧ i = .int .i64 ((k : Int) - 1) ∧ m = .int .i64 (firstAt rule (F.drop k)) ∧ wr = w3) (fun _ i _ => (intOf i + 1).toNat)
      case atStart => exact ⟨F.length, Nat.le_refl _, by first | rfl | rw [y0], by rw [List.drop_length]; rfl, rfl⟩
      case round =>
        obtain ⟨k, hk, rfl, rfl, hw⟩ := hrel
        rw [hw]
        clear hw
        rcases k with _ | k
        · have t1 : decide ((0 : Int) ≤ ((0 : Nat) : Int) - 1) = false := by decide
          have hml : isI64 (firstAt rule F) := firstAt_i64 rule F HFK.out
          have HML := Lib.hid hml
          clear hml
          obtain ⟨z, hz⟩ : ∃ z, z = firstAt rule F := ⟨_, rfl⟩
          rw [List.drop_zero, ← hz]
          have HZ := Lib.hid hz
          clear hz
          go_wp2_with fail
          have HS3f := HS.out.below HB3.out
          refine (given_any l A cap w3 HS3f HOK.out (by omega)).mono ?_
          clear HS3f
          rintro e w4 ⟨v4, rfl, hown4, hb4⟩
          obtain ⟨A4, c4, e4, hs4, hi4⟩ := own_slice hown4
          subst e4
          have HS4 := Lib.hid hs4
          have HI4 := Lib.hid hi4
          have HB4 := Lib.hid (bstep HB3.out hb4)
          clear hown4 hs4 hi4 hb4
          go_wp2_with fail
          refine (first_any skew rule l A4 c4 w4 HS4.out HOK.out hsk (by omega) HI4.out).mono ?_
          rintro e w5 ⟨rfl, hb5⟩
          have HB5 := Lib.hid (bstep HB4.out hb5)
          clear hb5
          rw [← HF.out, ← HZ.out]
          have t0 : (z == z) = true := beq_self_eq_true _
          go_wp2_with fail
          refine (Rules_any w5).mono ?_
          rintro e w6 ⟨v6, rfl, hown6, hb6⟩
          obtain ⟨A6, c6, e6, hs6, hi6⟩ := own_slice hown6
          subst e6
          have HS6 : Hid (Sn w6 1 (.slice A6 five.length c6) five.length (strs five)) := Lib.hid hs6
          have HB6 := Lib.hid (bstep HB5.out hb6)
          clear hown6 hs6 hi6 hb6
          go_wp2_with fail
          refine calls_at (w6.alloc (.cells (strs five).toArray 9)) (fun w7 hw7 => ?_)
          have hb7 : Below w6.heap.size w6 w7 := by rw [hw7]; exact bel1 _ _
          have hs7 : Sn w7 1 (.slice (some ⟨w6.heap.size, 0, none⟩) five.length 5) five.length (strs five) := by
            rw [hw7]
            have h := Sn.new w6 (strs five).toArray 9 1 5 rfl
            rw [List.toList_toArray] at h
            exact h
          clear hw7
          have HB7 := Lib.hid (bstep HB6.out hb7)
          refine (eqS_any five five A6 _ c6 5 w7 (HS6.out.below hb7) hs7 (by decide)).mono ?_
          rintro e w8 ⟨rfl, d, rfl⟩
          rw [decide_eq_true rfl]
          clear hs7 hb7
          have HB8 := Lib.hid (bdrewN HB7.out d)
          go_wp2_with fail
          go_ret
          exact ⟨rfl, HB8.out⟩
        · have hlt : k < F.length := by omega
          obtain ⟨b, off, eA, hrow⟩ := at_fd HS3.out k hlt
          have c0 : w3.cell? ⟨b, off + k * 2, none⟩ = some (.string (ruleN F[k].1)) := hrow 0 _ rfl
          have c1 : w3.cell? ⟨b, off + k * 2 + 1, none⟩ = some (.int .i64 F[k].2) := hrow 1 _ rfl
          subst eA
          clear hrow
          have HFD := Lib.hid (firstAt_drop rule F k hlt)
          obtain ⟨N, hN⟩ : ∃ N, N = ruleN F[k].1 := ⟨_, rfl⟩
          obtain ⟨z, hz⟩ : ∃ z, z = (F[k].2 : Int) := ⟨_, rfl⟩
          rw [← hN, ← hz] at HFD
          rw [← hN] at c0
          rw [← hz] at c1
          clear hN hz
          obtain ⟨q, hq⟩ : ∃ q, q = firstAt rule (F.drop (k + 1)) := ⟨_, rfl⟩
          rw [← hq] at HFD ⊢
          clear hq
          have hk1 : (k : Int) < F.length := by omega
          have hk0 : (0 : Int) ≤ k := by omega
          have t1 : decide ((0 : Int) ≤ ((k + 1 : Nat) : Int) - 1) = true := decide_eq_true (by omega)
          have y1 : ((k + 1 : Nat) : Int) - 1 = k := by omega
          have y2 : IntKind.i64.wrap ((k : Int) - 1) = (k : Int) - 1 := IntWalk.i64_in _ (by omega)
          rw [y1]
          have t2 : decide ((0 : Int) ≤ (k : Int)) = true := decide_eq_true hk0
          rcases Bool.eq_false_or_eq_true (decide (N = rule)) with t3 | t3
          · have e3 := of_decide_eq_true t3
            rw [if_pos e3] at HFD
            have s1 : (N.toList == rule.toList) = true := str_tt e3
            clear e3 t3
            go_wp2_with fail
            exact ⟨⟨k, by omega, by first | rfl | rw [y2], by rw [HFD.out], by trivial⟩, by simp [intOf]⟩
          · have e3 := of_decide_eq_false t3
            rw [if_neg e3] at HFD
            have s1 : (N.toList == rule.toList) = false := str_ff e3
            clear e3 t3
            go_wp2_with fail
            exact ⟨⟨k, by omega, by first | rfl | rw [y2], by rw [HFD.out], by trivial⟩, by simp [intOf]⟩
end Go.Proofs.YtmhckcghfikeiaaDoor
