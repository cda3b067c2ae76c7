/- Numbers and hexadecimal digits as both packages read them. -/
import Derived.Test.YtmaifldiondchaaDoorScrD
import Derived.IntWalk
namespace Go.Proofs.YtmaifldiondchaaDoor
open Go.RowKit
set_option linter.unusedSimpArgs false

theorem SB_get (s : Bs) (k : Nat) (_ : k < s.length) (h : k < (SB s).size) : (SB s)[k]'h = s[k] := by
  show (SB s).data[k] = _
  simp [SB]
  rfl
theorem idx_at (s : Bs) (k : Nat) (hk : k < s.length) (w : World) : (Instr.index 9 (.string (SB s)) (.int .i64 (k : Int))).run Tryd.prog w = .ok (.int .u8 (s[k].toNat : Int)) w := by
  rw [run_index_string w 9 (SB s) .i64 (k : Int) Tryd.underlying9, dif_pos (by rw [SB_size]; omega)]
  simp only [Int.toNat_natCast]
  rw [SB_get s k hk]
  rfl
theorem SB_nonempty {S : ByteArray} (h : S ≠ ⟨#[]⟩) : S.toList.isEmpty = false := by
  rw [Bool.eq_false_iff]
  intro e
  rw [ByteArray.toList_eq, List.isEmpty_iff] at e
  exact h (ByteArray.ext (Array.toList_inj.1 e))
def numR (s : Bs) : Int × Bool := match numB s with
  | some n => ((n : Int), true)
  | none => (0, false)
theorem numR_none {s : Bs} (h : numB s = none) : numR s = (0, false) := by unfold numR; rw [h]
theorem numR_some {s : Bs} {n : Nat} (h : numB s = some n) : numR s = ((n : Int), true) := by unfold numR; rw [h]
theorem numB_if (s : Bs) : numB s = if decide (1 ≤ s.length) && (decide (s.length ≤ 13) && ((s.head? != some 48 || s.length == 1) && s.all isDig)) then some (valB s) else none := rfl
theorem all_take_succ {s : Bs} {k : Nat} (hk : k < s.length) (p : UInt8 → Bool) : (s.take (k + 1)).all p = ((s.take k).all p && p s[k]) := by
  rw [List.take_succ_eq_append_getElem hk, List.all_append]
  simp
theorem valB_take {s : Bs} {k : Nat} (hk : k < s.length) : valB (s.take (k + 1)) = valB (s.take k) * 10 + (s[k].toNat - 48) := by
  rw [List.take_succ_eq_append_getElem hk, valB_snoc]
theorem pow_le {k : Nat} (h : k ≤ 13) : 10 ^ k ≤ 10000000000000 := Nat.le_trans (Nat.pow_le_pow_right (by omega) h) (by decide)

set_option maxRecDepth 100000 in
set_option maxHeartbeats 4000000 in
theorem parseNumber_any (s : Bs) (w : World) (hm : s.length ≤ 9223372036854775807) :
    Calls Tryd.prog 46 #[.string (SB s)] w fun e w' => e = .returned (.tuple #[.int .i64 (numR s).1, .bool (numR s).2]) ∧ w' = w := by
  have hix := idx_at s
  obtain ⟨S, hS⟩ : ∃ S, S = SB s := ⟨_, rfl⟩
  have hsz : S.size = s.length := by rw [hS, SB_size]
  rw [← hS] at hix ⊢
  have HIX := Lib.hid hix
  clear hix hS
  rcases Bool.eq_false_or_eq_true (decide ((s.length : Int) < 1)) with t1 | t1
  · have HN : Hid (numR s = (0, false)) := Lib.hid (numR_none (by rw [numB_if, if_neg]; simp at t1 ⊢; omega))
    go_enter Tryd.func46, Tryd.ntmps46
    go_wp2_with fail
    go_ret2
    exact ⟨by rw [HN.out]; rfl, rfl⟩
  rcases Bool.eq_false_or_eq_true (decide ((13 : Int) < s.length)) with t2 | t2
  · have HN : Hid (numR s = (0, false)) := Lib.hid (numR_none (by rw [numB_if, if_neg]; simp at t2 ⊢; omega))
    go_enter Tryd.func46, Tryd.ntmps46
    go_wp2_with fail
    go_ret2
    exact ⟨by rw [HN.out]; rfl, rfl⟩
  have hl1 : 1 ≤ s.length := by have := of_decide_eq_false t1; omega
  have hl2 : s.length ≤ 13 := by have := of_decide_eq_false t2; omega
  have hi0 : ∀ w, (Instr.index 9 (.string S) (.int .i64 0)).run Tryd.prog w = .ok (.int .u8 ((s[0]'(by omega)).toNat : Int)) w := fun w => HIX.out 0 (by omega) w
  obtain ⟨b0, hb0⟩ : ∃ b0, b0 = s[0] := ⟨_, rfl⟩
  rw [← hb0] at hi0
  have hhd : s.head? = some b0 := by rw [hb0, List.head?_eq_getElem?, List.getElem?_eq_getElem]
  obtain ⟨z0, hz0⟩ : ∃ z0, z0 = (b0.toNat : Int) := ⟨_, rfl⟩
  rw [← hz0] at hi0
  have HB0 := Lib.hid (show (b0 = 48) ↔ z0 = 48 by
    rw [hz0]
    constructor
    · rintro rfl; rfl
    · intro h; exact UInt8.toNat_inj.1 (by have : (48 : UInt8).toNat = 48 := rfl; omega))
  have HHD := Lib.hid hhd
  clear hb0 hhd hz0
  have go : ((z0 == 48) && decide ((1 : Int) < s.length)) = false → Calls Tryd.prog 46 #[.string S] w fun e w' => e = .returned (.tuple #[.int .i64 (numR s).1, .bool (numR s).2]) ∧ w' = w := by
    intro hq
    have HL : Hid (numB s = if s.all isDig then some (valB s) else none) := Lib.hid (by
      rw [numB_if, HHD.out]
      have h : (some b0 != some 48 || s.length == 1) = true := by
        rw [Bool.or_eq_true, bne_iff_ne, beq_iff_eq]
        rw [Bool.and_eq_false_iff] at hq
        rcases hq with h | h
        · left
          intro e
          have := HB0.out.1 (Option.some.inj e)
          rw [this] at h
          cases h
        · right; have := of_decide_eq_false h; omega
      rw [h]
      simp [hl1, hl2])
    have body : ∀ (Q : Prop), Q → Q := fun _ h => h
    rcases Bool.eq_false_or_eq_true (z0 == 48) with t3 | t3
    · rw [t3] at hq
      simp only [Bool.true_and, Bool.false_and] at hq
      go_enter Tryd.func46, Tryd.ntmps46
      go_wp2_with fail
      go_loopw [4, 26] (fun n i wr => ∃ k : Nat, k ≤ s.length ∧ i = .int .i64 k ∧ n = .int .i64 (valB (s.take k) : Nat) ∧ Hid ((s.take k).all isDig = true) ∧ wr = w) (fun _ i _ => s.length - (intOf i).toNat)
      case atStart => exact ⟨0, Nat.zero_le _, rfl, rfl, Lib.hid rfl, rfl⟩
      case round =>
        obtain ⟨k, hk, rfl, rfl, HP, hw⟩ := hrel
        rw [hw]
        clear hw
        rcases Nat.lt_or_ge k s.length with hlt | hge
        · have hi := HIX.out k hlt
          have HV := Lib.hid (valB_take hlt)
          have HA := Lib.hid (all_take_succ hlt isDig)
          have hvl := valB_lt k (s.take k) (by rw [List.length_take]; omega) HP.out
          have hv13 := pow_le (show k ≤ 13 by omega)
          obtain ⟨b, hb⟩ : ∃ b, b = s[k] := ⟨_, rfl⟩
          rw [← hb] at hi HV HA
          have HS := Lib.hid (show isDig b = true → s.all isDig = true ∨ True from fun _ => .inr trivial)
          have HB : Hid (isDig b = false → s.all isDig = false) := Lib.hid (fun h => by
            rw [Bool.eq_false_iff]
            intro h2
            have := List.all_eq_true.1 h2 s[k] (List.getElem_mem hlt)
            rw [← hb, h] at this
            cases this)
          have hbl := UInt8.toNat_lt b
          obtain ⟨z, hz⟩ : ∃ z, z = b.toNat := ⟨_, rfl⟩
          rw [← hz] at hi HV hbl
          have HD : Hid (isDig b = (decide (48 ≤ z) && decide (z ≤ 57))) := Lib.hid (by rw [hz]; rfl)
          obtain ⟨v, hv⟩ : ∃ v, v = valB (s.take k) := ⟨_, rfl⟩
          rw [← hv] at HV hvl ⊢
          clear hz hv hb HS
          have hk0 : (0 : Int) ≤ k := by omega
          have hk1 : (k : Int) < s.length := by omega
          rcases Bool.eq_false_or_eq_true (decide ((z : Int) < 48)) with t4 | t4
          · have HF : Hid (numR s = (0, false)) := Lib.hid (numR_none (by
              rw [HL.out, HB.out (by rw [HD.out]; have := of_decide_eq_true t4; simp; omega)]; rfl))
            go_wp2_with fail
            go_ret2
            exact ⟨by rw [HF.out]; rfl, rfl⟩
          · rcases Bool.eq_false_or_eq_true (decide ((57 : Int) < z)) with t5 | t5
            · have HF : Hid (numR s = (0, false)) := Lib.hid (numR_none (by
                rw [HL.out, HB.out (by rw [HD.out]; have := of_decide_eq_true t5; simp; omega)]; rfl))
              go_wp2_with fail
              go_ret2
              exact ⟨by rw [HF.out]; rfl, rfl⟩
            · have hz1 : 48 ≤ z := by have := of_decide_eq_false t4; omega
              have hz2 : z ≤ 57 := by have := of_decide_eq_false t5; omega
              have y1 : IntKind.i64.wrap ((v : Int) * 10) = (v : Int) * 10 := IntWalk.i64_in _ (by omega)
              have y2 : IntKind.u8.wrap ((z : Int) - 48) = (z : Int) - 48 := by unfold IntKind.wrap; simp [IntKind.signed, IntKind.bits]; omega
              have y3 : IntKind.i64.wrap ((z : Int) - 48) = (z : Int) - 48 := IntWalk.i64_in _ (by omega)
              have y4 : IntKind.i64.wrap ((v : Int) * 10 + ((z : Int) - 48)) = (v : Int) * 10 + ((z : Int) - 48) := IntWalk.i64_in _ (by omega)
              have HE : Hid ((v : Int) * 10 + ((z : Int) - 48) = ((v * 10 + (z - 48) : Nat) : Int)) := Lib.hid (by omega)
              have HOK : Hid ((s.take (k + 1)).all isDig = true) := Lib.hid (by rw [HA.out, HP.out, HD.out]; simp; omega)
              go_wp2_with fail
              exact ⟨⟨k + 1, by omega, by go_num, by rw [HV.out, ← HE.out], HOK, by trivial⟩, by simp [intOf]; omega⟩
        · obtain rfl : k = s.length := by omega
          have hP := HP.out
          rw [List.take_length] at hP
          have HF : Hid (numR s = (((valB s : Nat) : Int), true)) := Lib.hid (numR_some (by rw [HL.out, if_pos hP]))
          clear hP
          rw [List.take_length]
          go_wp2_with fail
          go_ret2
          exact ⟨by rw [HF.out]; rfl, rfl⟩
    · rw [t3] at hq
      simp only [Bool.true_and, Bool.false_and] at hq
      go_enter Tryd.func46, Tryd.ntmps46
      go_wp2_with fail
      go_loopw [4, 26] (fun n i wr => ∃ k : Nat, k ≤ s.length ∧ i = .int .i64 k ∧ n = .int .i64 (valB (s.take k) : Nat) ∧ Hid ((s.take k).all isDig = true) ∧ wr = w) (fun _ i _ => s.length - (intOf i).toNat)
      case atStart => exact ⟨0, Nat.zero_le _, rfl, rfl, Lib.hid rfl, rfl⟩
      case round =>
        obtain ⟨k, hk, rfl, rfl, HP, hw⟩ := hrel
        rw [hw]
        clear hw
        rcases Nat.lt_or_ge k s.length with hlt | hge
        · have hi := HIX.out k hlt
          have HV := Lib.hid (valB_take hlt)
          have HA := Lib.hid (all_take_succ hlt isDig)
          have hvl := valB_lt k (s.take k) (by rw [List.length_take]; omega) HP.out
          have hv13 := pow_le (show k ≤ 13 by omega)
          obtain ⟨b, hb⟩ : ∃ b, b = s[k] := ⟨_, rfl⟩
          rw [← hb] at hi HV HA
          have HS := Lib.hid (show isDig b = true → s.all isDig = true ∨ True from fun _ => .inr trivial)
          have HB : Hid (isDig b = false → s.all isDig = false) := Lib.hid (fun h => by
            rw [Bool.eq_false_iff]
            intro h2
            have := List.all_eq_true.1 h2 s[k] (List.getElem_mem hlt)
            rw [← hb, h] at this
            cases this)
          have hbl := UInt8.toNat_lt b
          obtain ⟨z, hz⟩ : ∃ z, z = b.toNat := ⟨_, rfl⟩
          rw [← hz] at hi HV hbl
          have HD : Hid (isDig b = (decide (48 ≤ z) && decide (z ≤ 57))) := Lib.hid (by rw [hz]; rfl)
          obtain ⟨v, hv⟩ : ∃ v, v = valB (s.take k) := ⟨_, rfl⟩
          rw [← hv] at HV hvl ⊢
          clear hz hv hb HS
          have hk0 : (0 : Int) ≤ k := by omega
          have hk1 : (k : Int) < s.length := by omega
          rcases Bool.eq_false_or_eq_true (decide ((z : Int) < 48)) with t4 | t4
          · have HF : Hid (numR s = (0, false)) := Lib.hid (numR_none (by
              rw [HL.out, HB.out (by rw [HD.out]; have := of_decide_eq_true t4; simp; omega)]; rfl))
            go_wp2_with fail
            go_ret2
            exact ⟨by rw [HF.out]; rfl, rfl⟩
          · rcases Bool.eq_false_or_eq_true (decide ((57 : Int) < z)) with t5 | t5
            · have HF : Hid (numR s = (0, false)) := Lib.hid (numR_none (by
                rw [HL.out, HB.out (by rw [HD.out]; have := of_decide_eq_true t5; simp; omega)]; rfl))
              go_wp2_with fail
              go_ret2
              exact ⟨by rw [HF.out]; rfl, rfl⟩
            · have hz1 : 48 ≤ z := by have := of_decide_eq_false t4; omega
              have hz2 : z ≤ 57 := by have := of_decide_eq_false t5; omega
              have y1 : IntKind.i64.wrap ((v : Int) * 10) = (v : Int) * 10 := IntWalk.i64_in _ (by omega)
              have y2 : IntKind.u8.wrap ((z : Int) - 48) = (z : Int) - 48 := by unfold IntKind.wrap; simp [IntKind.signed, IntKind.bits]; omega
              have y3 : IntKind.i64.wrap ((z : Int) - 48) = (z : Int) - 48 := IntWalk.i64_in _ (by omega)
              have y4 : IntKind.i64.wrap ((v : Int) * 10 + ((z : Int) - 48)) = (v : Int) * 10 + ((z : Int) - 48) := IntWalk.i64_in _ (by omega)
              have HE : Hid ((v : Int) * 10 + ((z : Int) - 48) = ((v * 10 + (z - 48) : Nat) : Int)) := Lib.hid (by omega)
              have HOK : Hid ((s.take (k + 1)).all isDig = true) := Lib.hid (by rw [HA.out, HP.out, HD.out]; simp; omega)
              go_wp2_with fail
              exact ⟨⟨k + 1, by omega, by go_num, by rw [HV.out, ← HE.out], HOK, by trivial⟩, by simp [intOf]; omega⟩
        · obtain rfl : k = s.length := by omega
          have hP := HP.out
          rw [List.take_length] at hP
          have HF : Hid (numR s = (((valB s : Nat) : Int), true)) := Lib.hid (numR_some (by rw [HL.out, if_pos hP]))
          clear hP
          rw [List.take_length]
          go_wp2_with fail
          go_ret2
          exact ⟨by rw [HF.out]; rfl, rfl⟩
  rcases Bool.eq_false_or_eq_true ((z0 == 48) && decide ((1 : Int) < s.length)) with hq | hq
  · have HN : Hid (numR s = (0, false)) := Lib.hid (numR_none (by
      rw [numB_if, HHD.out, if_neg]
      rw [Bool.and_eq_true, beq_iff_eq] at hq
      have h1 := HB0.out.2 hq.1
      have h2 := of_decide_eq_true hq.2
      rw [h1]
      simp
      omega))
    rw [Bool.and_eq_true] at hq
    have t3 := hq.1
    have t4 := hq.2
    clear hq go
    go_enter Tryd.func46, Tryd.ntmps46
    go_wp2_with fail
    go_ret2
    exact ⟨by rw [HN.out]; rfl, rfl⟩
  · exact go hq

def refNum (s : Bs) : Int := match numB s with
  | some n => (n : Int)
  | none => -1
theorem refNum_none {s : Bs} (h : numB s = none) : refNum s = -1 := by unfold refNum; rw [h]
theorem refNum_some {s : Bs} {n : Nat} (h : numB s = some n) : refNum s = (n : Int) := by unfold refNum; rw [h]
set_option maxRecDepth 100000 in
set_option maxHeartbeats 4000000 in
theorem number_any (s : Bs) (w : World) (hm : s.length ≤ 9223372036854775807) :
    Calls Tryd.prog 26 #[.string (SB s)] w fun e w' => e = .returned (.int .i64 (refNum s)) ∧ w' = w := by
  by_cases hne : s = []
  · subst hne
    show Calls Tryd.prog 26 #[.string ⟨#[]⟩] w _
    go_enter Tryd.func26, Tryd.ntmps26
    go_wp2_with fail
    go_loopw [3, 4] (fun n i wr => n = .int .i64 0 ∧ i = .int .i64 0 ∧ wr = w) (fun _ _ _ => 0)
    case atStart => exact ⟨rfl, rfl, rfl⟩
    case round =>
      obtain ⟨rfl, rfl, hw⟩ := hrel
      rw [hw]
      clear hw
      go_wp2_with fail
      go_ret
      exact ⟨rfl, rfl⟩
  have hix := idx_at s
  obtain ⟨S, hS⟩ : ∃ S, S = SB s := ⟨_, rfl⟩
  have hsz : S.size = s.length := by rw [hS, SB_size]
  have hSne : S ≠ ⟨#[]⟩ := by
    intro e
    have h1 : S.size = 0 := by rw [e]; rfl
    rw [hsz] at h1
    exact hne (List.length_eq_zero_iff.1 h1)
  have s1 : S.toList.isEmpty = false := SB_nonempty hSne
  rw [← hS] at hix ⊢
  have HIX := Lib.hid hix
  have hl1 : 1 ≤ s.length := by
    rcases Nat.eq_zero_or_pos s.length with h | h
    · exact absurd (List.length_eq_zero_iff.1 h) hne
    · exact h
  clear hix hS hSne hne
  have hi0 : ∀ w, (Instr.index 9 (.string S) (.int .i64 0)).run Tryd.prog w = .ok (.int .u8 ((s[0]'(by omega)).toNat : Int)) w := fun w => HIX.out 0 (by omega) w
  obtain ⟨b0, hb0⟩ : ∃ b0, b0 = s[0] := ⟨_, rfl⟩
  rw [← hb0] at hi0
  have hhd : s.head? = some b0 := by rw [hb0, List.head?_eq_getElem?, List.getElem?_eq_getElem]
  obtain ⟨z0, hz0⟩ : ∃ z0, z0 = (b0.toNat : Int) := ⟨_, rfl⟩
  rw [← hz0] at hi0
  have HB0 := Lib.hid (show (b0 = 48) ↔ z0 = 48 by
    rw [hz0]
    constructor
    · rintro rfl; rfl
    · intro h; exact UInt8.toNat_inj.1 (by have : (48 : UInt8).toNat = 48 := rfl; omega))
  have HHD := Lib.hid hhd
  clear hb0 hhd hz0
  have HBAD : Hid (s.all isDig = false → refNum s = -1) := Lib.hid (fun h => refNum_none (by rw [numB_if, h]; simp))
  have HLONG : Hid (14 ≤ s.length → refNum s = -1) := Lib.hid (fun h => refNum_none (by rw [numB_if, if_neg]; simp; omega))
  go_enter Tryd.func26, Tryd.ntmps26
  go_wp2_with fail
  go_loopw [3, 4] (fun n i wr => ∃ k : Nat, k ≤ s.length ∧ i = .int .i64 k ∧ n = .int .i64 ((valB (s.take k) : Nat) : Int) ∧ Hid ((s.take k).all isDig = true) ∧ k ≤ 13 ∧ wr = w) (fun _ i _ => s.length - (intOf i).toNat)
  case atStart => exact ⟨0, Nat.zero_le _, rfl, rfl, Lib.hid rfl, by omega, rfl⟩
  case round =>
    obtain ⟨k, hk, rfl, rfl, HP, hk13, hw⟩ := hrel
    rw [hw]
    clear hw
    rcases Nat.lt_or_ge k s.length with hlt | hge
    · have hi := HIX.out k hlt
      have HV := Lib.hid (valB_take hlt)
      have HA := Lib.hid (all_take_succ hlt isDig)
      have hvl := valB_lt k (s.take k) (by rw [List.length_take]; omega) HP.out
      have hv13 := pow_le hk13
      obtain ⟨b, hb⟩ : ∃ b, b = s[k] := ⟨_, rfl⟩
      rw [← hb] at hi HV HA
      have HB : Hid (isDig b = false → s.all isDig = false) := Lib.hid (fun h => by
        rw [Bool.eq_false_iff]
        intro h2
        have := List.all_eq_true.1 h2 s[k] (List.getElem_mem hlt)
        rw [← hb, h] at this
        cases this)
      have hbl := UInt8.toNat_lt b
      obtain ⟨z, hz⟩ : ∃ z, z = b.toNat := ⟨_, rfl⟩
      rw [← hz] at hi HV hbl
      have HD : Hid (isDig b = (decide (48 ≤ z) && decide (z ≤ 57))) := Lib.hid (by rw [hz]; rfl)
      obtain ⟨v, hv⟩ : ∃ v, v = valB (s.take k) := ⟨_, rfl⟩
      rw [← hv] at HV hvl ⊢
      clear hz hv hb
      have hk0 : (0 : Int) ≤ k := by omega
      have hk1 : (k : Int) < s.length := by omega
      rcases Bool.eq_false_or_eq_true (decide ((z : Int) < 48)) with t4 | t4
      · have HF : Hid (refNum s = -1) := Lib.hid (HBAD.out (HB.out (by rw [HD.out]; have := of_decide_eq_true t4; simp; omega)))
        go_wp2_with fail
        go_ret
        exact ⟨by rw [HF.out]; rfl, rfl⟩
      · rcases Bool.eq_false_or_eq_true (decide ((57 : Int) < z)) with t5 | t5
        · have HF : Hid (refNum s = -1) := Lib.hid (HBAD.out (HB.out (by rw [HD.out]; have := of_decide_eq_true t5; simp; omega)))
          go_wp2_with fail
          go_ret
          exact ⟨by rw [HF.out]; rfl, rfl⟩
        · have hz1 : 48 ≤ z := by have := of_decide_eq_false t4; omega
          have hz2 : z ≤ 57 := by have := of_decide_eq_false t5; omega
          have y1 : IntKind.i64.wrap (10 * (v : Int)) = 10 * (v : Int) := IntWalk.i64_in _ (by omega)
          have y2 : IntKind.u8.wrap ((z : Int) - 48) = (z : Int) - 48 := by unfold IntKind.wrap; simp [IntKind.signed, IntKind.bits]; omega
          have y3 : IntKind.i64.wrap ((z : Int) - 48) = (z : Int) - 48 := IntWalk.i64_in _ (by omega)
          have y4 : IntKind.i64.wrap (10 * (v : Int) + ((z : Int) - 48)) = 10 * (v : Int) + ((z : Int) - 48) := IntWalk.i64_in _ (by omega)
          have HE : Hid (10 * (v : Int) + ((z : Int) - 48) = ((v * 10 + (z - 48) : Nat) : Int)) := Lib.hid (by omega)
          have HOK : Hid ((s.take (k + 1)).all isDig = true) := Lib.hid (by rw [HA.out, HP.out, HD.out]; simp; omega)
          rcases Bool.eq_false_or_eq_true (decide ((12 : Int) < k)) with t6 | t6
          · have HF : Hid (refNum s = -1) := Lib.hid (HLONG.out (by have := of_decide_eq_true t6; omega))
            go_wp2_with fail
            go_ret
            exact ⟨by rw [HF.out]; rfl, rfl⟩
          · have hk12 : k ≤ 12 := by have := of_decide_eq_false t6; omega
            go_wp2_with fail
            exact ⟨⟨k + 1, by omega, by go_num, by rw [HV.out, ← HE.out], HOK, by omega, by trivial⟩, by simp [intOf]; omega⟩
    · obtain rfl : k = s.length := by omega
      have hP := HP.out
      rw [List.take_length] at hP ⊢
      have HL : Hid (((z0 == 48) && decide ((1 : Int) < s.length)) = false → refNum s = ((valB s : Nat) : Int)) := Lib.hid (fun hq => refNum_some (by
        rw [numB_if, HHD.out, hP, if_pos]
        have h : (some b0 != some 48 || s.length == 1) = true := by
          rw [Bool.or_eq_true, bne_iff_ne, beq_iff_eq]
          rw [Bool.and_eq_false_iff] at hq
          rcases hq with h | h
          · left
            intro e
            have := HB0.out.1 (Option.some.inj e)
            rw [this] at h
            cases h
          · right; have := of_decide_eq_false h; omega
        rw [h]
        simp
        omega))
      clear hP
      rcases Bool.eq_false_or_eq_true (decide ((1 : Int) < s.length)) with t4 | t4
      · rcases Bool.eq_false_or_eq_true (z0 == 48) with t3 | t3
        · have HF : Hid (refNum s = -1) := Lib.hid (refNum_none (by
            rw [numB_if, HHD.out, if_neg]
            have h1 := HB0.out.2 (by simpa using t3)
            have h2 := of_decide_eq_true t4
            rw [h1]
            simp
            omega))
          go_wp2_with fail
          go_ret
          exact ⟨by rw [HF.out]; rfl, rfl⟩
        · have HF := Lib.hid (HL.out (by rw [t3]; rfl))
          clear HL
          go_wp2_with fail
          go_ret
          exact ⟨by rw [HF.out]; rfl, rfl⟩
      · have HF := Lib.hid (HL.out (by rw [t4]; simp))
        clear HL
        go_wp2_with fail
        go_ret
        exact ⟨by rw [HF.out]; rfl, rfl⟩
end Go.Proofs.YtmaifldiondchaaDoor
