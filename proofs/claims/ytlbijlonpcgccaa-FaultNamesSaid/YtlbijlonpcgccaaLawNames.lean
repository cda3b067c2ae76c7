/- FaultNames: the walk of the law. -/
import Derived.Test.YtlbijlonpcgccaaAwake02
import Derived.Test.YtlbijlonpcgccaaRefNames
namespace Go.Proofs.Ytlbijlonpcgccaa
open Go.RowKit

theorem nameOf_inj : ∀ (i j : Nat), i ≤ 16 → j ≤ 16 → i ≠ j → nameOf i ≠ nameOf j := by
  have key : ∀ i : Fin 17, ∀ j : Fin 17, i ≠ j → nameOf ((i : Nat) : Int) ≠ nameOf ((j : Nat) : Int) := by decide +kernel
  intro i j hi hj hne
  exact key ⟨i, by omega⟩ ⟨j, by omega⟩ (fun h => hne (by simpa using h))
theorem nameOf_ne (i : Nat) (hi : i ≤ 16) : nameOf i ≠ ByteArray.empty := by
  have key : ∀ i : Fin 17, nameOf ((i : Nat) : Int) ≠ ByteArray.empty := by decide +kernel
  exact key ⟨i, by omega⟩
theorem parse_cases (s : ByteArray) : (∃ m : Nat, m ≤ 16 ∧ nameOf m = s ∧ ∀ j : Nat, j < m → nameOf j ≠ s) ∨ (∀ j : Nat, j ≤ 16 → nameOf j ≠ s) := by
  by_cases h : ∃ m : Nat, m ≤ 16 ∧ nameOf m = s
  · obtain ⟨m, hm, he⟩ := h
    exact .inl ⟨m, hm, he, fun j hj => he ▸ nameOf_inj j m (by omega) hm (by omega)⟩
  · exact .inr fun j hj he => h ⟨j, hj, he⟩

set_option maxRecDepth 100000 in
set_option maxHeartbeats 1000000 in
theorem faultNames_big (c : Int) (s : ByteArray) (w : World) (h : 100 < s.size) :
    Calls Try.prog 4 #[.int .i64 c, .string s] w fun e w' => e = .returned (.bool true) ∧ Below w.heap.size w w' := by
  have t1 : decide ((100 : Int) < s.size) = true := by simp; omega
  go_enter Try.func4, Try.ntmps4
  go_wp2_with fail
  refine (awake_any w).mono ?_
  rintro e w1 ⟨rfl, hb1⟩
  go_wp2_with fail
  refine (awake_any w1).mono ?_
  rintro e w2 ⟨rfl, hb2⟩
  go_wp2_with fail
  go_ret
  exact ⟨rfl, bstep hb1 hb2⟩

theorem str_ne {s : ByteArray} (h : s ≠ ByteArray.empty) : s.toList.isEmpty = false ∧ ¬ s.toList = [] := by
  have h2 : ¬ s.toList = [] := by
    rw [ByteArray.toList_eq]
    intro e
    exact h (ByteArray.ext (Array.toList_inj.1 e))
  exact ⟨by simpa using h2, h2⟩

set_option maxRecDepth 100000 in
set_option maxHeartbeats 1000000 in
theorem faultNames_in_yes (c : Nat) (hc : c ≤ 16) (s : ByteArray) (w : World) (h : s.size ≤ 100) (m : Nat) (hm : m ≤ 16) (hs : nameOf m = s) (hj : ∀ j : Nat, j < m → nameOf j ≠ s) :
    Calls Try.prog 4 #[.int .i64 c, .string s] w fun e w' => e = .returned (.bool true) ∧ Below w.heap.size w w' := by
  have t1 : decide ((100 : Int) < s.size) = false := by simp; omega
  obtain ⟨n1, n2⟩ := str_ne (nameOf_ne c hc)
  obtain ⟨n3, n4⟩ := str_ne (hs ▸ nameOf_ne m hm)
  have t2 := str_tt hs
  have HJ := Lib.hid hj
  clear hj
  have HS := Lib.hid hs
  clear hs
  go_enter Try.func4, Try.ntmps4
  go_wp2_with fail
  refine (awake_any w).mono ?_
  rintro e w1 ⟨rfl, hb1⟩
  go_wp2_with fail
  refine (name_any c w1).mono ?_
  rintro e w2 ⟨rfl, hb2⟩
  go_wp2_with fail
  refine (parse_found _ c hc rfl (fun j hj => nameOf_inj j c (by omega) hc (by omega)) w2).mono ?_
  rintro e w3 ⟨rfl, hb3⟩
  go_wp2_with fail
  refine (ref_name_any c w3).mono ?_
  rintro e w4 ⟨rfl, hb4⟩
  go_wp2_with fail
  refine (parse_found s m hm HS.out HJ.out w4).mono ?_
  rintro e w5 ⟨rfl, hb5⟩
  go_wp2_with fail
  refine (ref_name_any m w5).mono ?_
  rintro e w6 ⟨rfl, hb6⟩
  go_wp2_with fail
  go_ret
  exact ⟨rfl, bstep (bstep (bstep (bstep (bstep hb1 hb2) hb3) hb4) hb5) hb6⟩

set_option maxRecDepth 100000 in
set_option maxHeartbeats 1000000 in
theorem faultNames_in_no (c : Nat) (hc : c ≤ 16) (s : ByteArray) (w : World) (h : s.size ≤ 100) (hj : ∀ j : Nat, j ≤ 16 → nameOf j ≠ s) :
    Calls Try.prog 4 #[.int .i64 c, .string s] w fun e w' => e = .returned (.bool true) ∧ Below w.heap.size w w' := by
  have t1 : decide ((100 : Int) < s.size) = false := by simp; omega
  obtain ⟨n1, n2⟩ := str_ne (nameOf_ne c hc)
  have t2 : ((nameOf 0).toList == s.toList) = false := str_ff (hj 0 (by omega))
  have HJ := Lib.hid hj
  clear hj
  go_enter Try.func4, Try.ntmps4
  go_wp2_with fail
  refine (awake_any w).mono ?_
  rintro e w1 ⟨rfl, hb1⟩
  go_wp2_with fail
  refine (name_any c w1).mono ?_
  rintro e w2 ⟨rfl, hb2⟩
  go_wp2_with fail
  refine (parse_found _ c hc rfl (fun j hj => nameOf_inj j c (by omega) hc (by omega)) w2).mono ?_
  rintro e w3 ⟨rfl, hb3⟩
  go_wp2_with fail
  refine (ref_name_any c w3).mono ?_
  rintro e w4 ⟨rfl, hb4⟩
  go_wp2_with fail
  refine (parse_none s HJ.out w4).mono ?_
  rintro e w5 ⟨rfl, hb5⟩
  have hb15 := bstep (bstep (bstep (bstep hb1 hb2) hb3) hb4) hb5
  clear hb1 hb2 hb3 hb4 hb5
  by_cases he : s = ByteArray.empty
  · have n5 : s.toList = [] := by rw [he, ByteArray.toList_eq]; rfl
    have n6 : s.toList.isEmpty = true := by rw [n5]; rfl
    clear he
    go_wp2_with fail
    refine (has_no s HJ.out w5).mono ?_
    rintro e w7 ⟨rfl, hb7⟩
    go_wp2_with fail
    go_ret
    exact ⟨rfl, bstep hb15 hb7⟩
  · obtain ⟨n3, n4⟩ := str_ne he
    clear he
    go_wp2_with fail
    refine (ref_name_any 0 w5).mono ?_
    rintro e w6 ⟨rfl, hb6⟩
    go_wp2_with fail
    refine (has_no s HJ.out w6).mono ?_
    rintro e w7 ⟨rfl, hb7⟩
    go_wp2_with fail
    go_ret
    exact ⟨rfl, bstep (bstep hb15 hb6) hb7⟩

set_option maxRecDepth 100000 in
set_option maxHeartbeats 1000000 in
theorem faultNames_out_yes (c : Int) (hc : c < 0 ∨ 16 < c) (s : ByteArray) (w : World) (h : s.size ≤ 100) (m : Nat) (hm : m ≤ 16) (hs : nameOf m = s) (hj : ∀ j : Nat, j < m → nameOf j ≠ s) :
    Calls Try.prog 4 #[.int .i64 c, .string s] w fun e w' => e = .returned (.bool true) ∧ Below w.heap.size w w' := by
  have t1 : decide ((100 : Int) < s.size) = false := by simp; omega
  have HN := Lib.hid (nameOf_out c hc)
  obtain ⟨n3, n4⟩ := str_ne (hs ▸ nameOf_ne m hm)
  have t2 := str_tt hs
  have HJ := Lib.hid hj
  clear hj
  have HS := Lib.hid hs
  clear hs
  go_enter Try.func4, Try.ntmps4
  go_wp2_with fail
  refine (awake_any w).mono ?_
  rintro e w1 ⟨rfl, hb1⟩
  go_wp2_with fail
  refine (name_any c w1).mono ?_
  rintro e w2 ⟨rfl, hb2⟩
  rw [HN.out]
  go_wp2_with fail
  refine (parse_none _ (fun j hj => nameOf_ne j hj) w2).mono ?_
  rintro e w3 ⟨rfl, hb3⟩
  go_wp2_with fail
  refine (ref_name_any c w3).mono ?_
  rintro e w4 ⟨rfl, hb4⟩
  rw [HN.out]
  go_wp2_with fail
  refine (parse_found s m hm HS.out HJ.out w4).mono ?_
  rintro e w5 ⟨rfl, hb5⟩
  go_wp2_with fail
  refine (ref_name_any m w5).mono ?_
  rintro e w6 ⟨rfl, hb6⟩
  go_wp2_with fail
  go_ret
  exact ⟨rfl, bstep (bstep (bstep (bstep (bstep hb1 hb2) hb3) hb4) hb5) hb6⟩

set_option maxRecDepth 100000 in
set_option maxHeartbeats 1000000 in
theorem faultNames_out_no (c : Int) (hc : c < 0 ∨ 16 < c) (s : ByteArray) (w : World) (h : s.size ≤ 100) (hj : ∀ j : Nat, j ≤ 16 → nameOf j ≠ s) :
    Calls Try.prog 4 #[.int .i64 c, .string s] w fun e w' => e = .returned (.bool true) ∧ Below w.heap.size w w' := by
  have t1 : decide ((100 : Int) < s.size) = false := by simp; omega
  have HN := Lib.hid (nameOf_out c hc)
  have t2 : ((nameOf 0).toList == s.toList) = false := str_ff (hj 0 (by omega))
  have HJ := Lib.hid hj
  clear hj
  go_enter Try.func4, Try.ntmps4
  go_wp2_with fail
  refine (awake_any w).mono ?_
  rintro e w1 ⟨rfl, hb1⟩
  go_wp2_with fail
  refine (name_any c w1).mono ?_
  rintro e w2 ⟨rfl, hb2⟩
  rw [HN.out]
  go_wp2_with fail
  refine (parse_none _ (fun j hj => nameOf_ne j hj) w2).mono ?_
  rintro e w3 ⟨rfl, hb3⟩
  go_wp2_with fail
  refine (ref_name_any c w3).mono ?_
  rintro e w4 ⟨rfl, hb4⟩
  rw [HN.out]
  go_wp2_with fail
  refine (parse_none s HJ.out w4).mono ?_
  rintro e w5 ⟨rfl, hb5⟩
  have hb15 := bstep (bstep (bstep (bstep hb1 hb2) hb3) hb4) hb5
  clear hb1 hb2 hb3 hb4 hb5
  by_cases he : s = ByteArray.empty
  · have n5 : s.toList = [] := by rw [he, ByteArray.toList_eq]; rfl
    have n6 : s.toList.isEmpty = true := by rw [n5]; rfl
    clear he
    go_wp2_with fail
    refine (has_no s HJ.out w5).mono ?_
    rintro e w7 ⟨rfl, hb7⟩
    go_wp2_with fail
    go_ret
    exact ⟨rfl, bstep hb15 hb7⟩
  · obtain ⟨n3, n4⟩ := str_ne he
    clear he
    go_wp2_with fail
    refine (ref_name_any 0 w5).mono ?_
    rintro e w6 ⟨rfl, hb6⟩
    go_wp2_with fail
    refine (has_no s HJ.out w6).mono ?_
    rintro e w7 ⟨rfl, hb7⟩
    go_wp2_with fail
    go_ret
    exact ⟨rfl, bstep (bstep hb15 hb6) hb7⟩

theorem faultNames_walk (c : Int) (s : ByteArray) (w : World) :
    Calls Try.prog 4 #[.int .i64 c, .string s] w fun e w' => e = .returned (.bool true) ∧ Below w.heap.size w w' := by
  by_cases h : 100 < s.size
  · exact faultNames_big c s w h
  · by_cases hc : c < 0 ∨ 16 < c
    · rcases parse_cases s with ⟨m, hm, hs, hj⟩ | hj
      · exact faultNames_out_yes c hc s w (by omega) m hm hs hj
      · exact faultNames_out_no c hc s w (by omega) hj
    · obtain ⟨n, rfl⟩ : ∃ n : Nat, c = n := ⟨c.toNat, by omega⟩
      rcases parse_cases s with ⟨m, hm, hs, hj⟩ | hj
      · exact faultNames_in_yes n (by omega) s w (by omega) m hm hs hj
      · exact faultNames_in_no n (by omega) s w (by omega) hj
end Go.Proofs.Ytlbijlonpcgccaa
