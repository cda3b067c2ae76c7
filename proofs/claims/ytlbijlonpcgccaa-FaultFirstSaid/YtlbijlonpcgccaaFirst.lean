/- fault.First and the reference's First: what they compute. -/
import Derived.Test.YtlbijlonpcgccaaWords
namespace Go.Proofs.Ytlbijlonpcgccaa
open Go.RowKit

def firstTo (m : Int) : List Int → Int
  | [] => m
  | c :: l => firstTo (if 1 ≤ c ∧ c < m then c else m) l
def firstOf (l : List Int) : Int := firstTo 10 l
theorem firstTo_append (m : Int) (l r : List Int) : firstTo m (l ++ r) = firstTo (firstTo m l) r := by
  induction l generalizing m with
  | nil => rfl
  | cons c l ih => simp [firstTo, ih]
theorem firstTo_snoc (l : List Int) (k : Nat) (h : k < l.length) : firstTo 10 (l.take (k + 1)) = if 1 ≤ l.getD k 0 ∧ l.getD k 0 < firstTo 10 (l.take k) then l.getD k 0 else firstTo 10 (l.take k) := by
  rw [List.take_add_one, firstTo_append]
  simp [List.getD, List.getElem?_eq_getElem h, firstTo]

set_option maxHeartbeats 400000 in
theorem first_any (v : Value) (l : List Int) (w : World) (hs : Sl w v (i64s l)) (hl : l.length ≤ 1000000) :
    Calls Try.prog 18 #[v] w fun e w' => e = .returned (.int .i64 (firstOf l)) ∧ w = w' := by
  obtain ⟨A, cap, rfl, hcap, hx⟩ := hs
  rw [i64s_length] at hcap hx ⊢
  go_enter Try.func18, Try.ntmps18
  go_wp2
  go_loop [3, 8] (fun m i => ∃ k : Nat, k ≤ l.length ∧ i = .int .i64 k ∧ m = .int .i64 (firstTo 10 (l.take k))) (fun _ i => l.length - (intOf i).toNat)
  case atStart => exact ⟨0, Nat.zero_le _, rfl, rfl⟩
  case round =>
    obtain ⟨k, hk, rfl, rfl⟩ := hrel
    by_cases hlt : k < l.length
    · obtain ⟨b, off, rfl, hc⟩ := hx (by omega)
      have hcell := hc k _ (i64s_get l k hlt)
      have hsn := Lib.hid (firstTo_snoc l k hlt)
      have hg : l.getD k 0 = l[k] := by simp [List.getD, hlt]
      rw [hg] at hcell hsn
      clear hx hc hg
      go_wp2
      all_goals
        go_round
        case rel => exact ⟨k + 1, by omega, by go_num, by rw [hsn.out]; first | rw [if_pos ⟨‹_›, ‹_›⟩] | (rw [if_neg (by omega)])⟩
        case measure => simp [intOf]; omega
    · go_wp2
      go_ret
      have : k = l.length := by omega
      subst this
      exact ⟨by simp [firstOf], rfl⟩

set_option maxHeartbeats 400000 in
theorem ref_first_any (v : Value) (l : List Int) (w : World) (hs : Sl w v (i64s l)) (hl : l.length ≤ 1000000) :
    Calls Try.prog 19 #[v] w fun e w' => e = .returned (.int .i64 (firstOf l)) ∧ w = w' := by
  obtain ⟨A, cap, rfl, hcap, hx⟩ := hs
  rw [i64s_length] at hcap hx ⊢
  go_enter Try.func19, Try.ntmps19
  go_wp2
  go_loop [3, 4] (fun m i => ∃ k : Nat, k ≤ l.length ∧ i = .int .i64 k ∧ m = .int .i64 (firstTo 10 (l.take k))) (fun _ i => l.length - (intOf i).toNat)
  case atStart => exact ⟨0, Nat.zero_le _, rfl, rfl⟩
  case round =>
    obtain ⟨k, hk, rfl, rfl⟩ := hrel
    by_cases hlt : k < l.length
    · obtain ⟨b, off, rfl, hc⟩ := hx (by omega)
      have hcell := hc k _ (i64s_get l k hlt)
      have hsn := Lib.hid (firstTo_snoc l k hlt)
      have hg : l.getD k 0 = l[k] := by simp [List.getD, hlt]
      rw [hg] at hcell hsn
      clear hx hc hg
      go_wp2
      all_goals
        go_round
        case rel => exact ⟨k + 1, by omega, by go_num, by rw [hsn.out]; first | rw [if_pos ⟨‹_›, ‹_›⟩] | (rw [if_neg (by omega)])⟩
        case measure => simp [intOf]; omega
    · go_wp2
      go_ret
      have : k = l.length := by omega
      subst this
      exact ⟨by simp [firstOf], rfl⟩
end Go.Proofs.Ytlbijlonpcgccaa
