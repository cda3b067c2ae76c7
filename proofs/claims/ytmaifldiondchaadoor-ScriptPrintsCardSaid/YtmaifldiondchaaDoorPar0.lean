/- script.kinds, script.parseData; strings.Cut at one byte. -/
import Derived.Test.YtmaifldiondchaaDoorScr2
import Derived.Test.YtmaifldiondchaaDoorScrF
import Derived.Test.YtmaifldiondchaaDoorSMap
import Derived.Test.YtmaifldiondchaaDoorTabl
import Derived.OwnWalk
import Derived.Laws.BitsAllLaws
namespace Go.Proofs.YtmaifldiondchaaDoor
open Go.RowKit
set_option linter.unusedSimpArgs false

/-- What the library's search reads besides: a number in a package variable of its own. -/
def ML (w : World) : Prop := ∃ m : Int, w.cell? ⟨0, 0, none⟩ = some (.int .i64 m)
theorem ML.below {w w' : World} (h : ML w) (hb : Below w.heap.size w w') : ML w' := by
  obtain ⟨m, hm⟩ := h
  exact ⟨m, Below.cell' hb hm⟩
theorem occ_at (s : Bs) (c : UInt8) (j : Nat) : Lib.occAt s [c] j = (s[j]? == some c) := by
  unfold Lib.occAt
  rw [← List.head?_drop]
  cases s.drop j with
  | nil => rfl
  | cons x t =>
    show (c == x && true) = (some x == some c)
    rw [Bool.and_true, Bool.eq_iff_iff, beq_iff_eq, beq_iff_eq]
    exact ⟨fun e => by rw [e], fun e => (Option.some.inj e).symm⟩
theorem cut_word (c : UInt8) (s : Bs) (h : c ∉ s) : Lib.cut s [c] = (s, [], false) := by
  have hi : Lib.index s [c] = -1 := Lib.index_none fun j _ => by
    rw [occ_at, beq_eq_false_iff_ne]
    intro e
    exact h (List.mem_of_getElem? e)
  unfold Lib.cut
  rw [hi]
  rfl
theorem cut_app (c : UInt8) (w r : Bs) (h : c ∉ w) : Lib.cut (w ++ c :: r) [c] = (w, r, true) := by
  have hi : Lib.index (w ++ c :: r) [c] = (w.length : Nat) := Lib.index_first (by simp) (by rw [occ_at]; simp) fun j hj => by
    rw [occ_at, beq_eq_false_iff_ne, List.getElem?_append_left hj]
    intro e
    exact h (List.mem_of_getElem? e)
  unfold Lib.cut
  rw [hi, if_pos (by omega)]
  simp
theorem first_occ (c : UInt8) : ∀ s : Bs, c ∈ s → ∃ w r, s = w ++ c :: r ∧ c ∉ w
  | [], h => by cases h
  | x :: s, h => by
    by_cases hx : x = c
    · exact ⟨[], s, by rw [hx]; rfl, by simp⟩
    · have hm : c ∈ s := by simpa [Ne.symm hx] using h
      obtain ⟨w, r, h1, h2⟩ := first_occ c s hm
      exact ⟨x :: w, r, by rw [h1]; rfl, by simp [Ne.symm hx, h2]⟩
theorem cut_ways (c : UInt8) (s : Bs) : (c ∉ s ∧ split c s = [s] ∧ Lib.cut s [c] = (s, [], false)) ∨ ∃ w r, s = w ++ c :: r ∧ split c s = w :: split c r ∧ Lib.cut s [c] = (w, r, true) := by
  by_cases h : c ∈ s
  · obtain ⟨w, r, rfl, hw⟩ := first_occ c s h
    exact .inr ⟨w, r, rfl, split_app c w r hw, cut_app c w r hw⟩
  · exact .inl ⟨h, split_word c s h, cut_word c s h⟩
theorem cut_call (c : UInt8) (s : Bs) (w : World) (hw : ML w) (hs : s.length ≤ 100000000) :
    Calls Tryd.prog 44 #[.string (SB s), .string (SB [c])] w fun e w' => e = .returned (.tuple #[.string (SB (Lib.cut s [c]).1), .string (SB (Lib.cut s [c]).2.1), .bool (Lib.cut s [c]).2.2]) ∧ ∃ n, w' = w.drewN n := by
  obtain ⟨m, hm⟩ := hw
  have := Tryd.strings_Cut (SB s) (SB [c]) m w (by rw [SB_size]; omega) hm
  rw [SB_list, SB_list] at this
  exact this

def kmap (j : Nat) : Bs → Option Value := fun w => if kindOf w ≠ 0 ∧ kindOf w ≤ j then some (.int .i64 (kindOf w)) else none
theorem kindOf_range (w : Bs) : 0 ≤ kindOf w ∧ kindOf w ≤ 6 := by
  unfold kindOf
  repeat (split; · omega)
  omega
theorem kmap_succ (j : Nat) (hj : j < 6) : sput (kmap j) (wordL ((j : Int) + 1)) (.int .i64 ((j : Int) + 1)) = kmap (j + 1) := by
  funext x
  unfold sput kmap
  have hk : kindOf (wordL ((j : Int) + 1)) = (j : Int) + 1 := kindOf_word (by omega)
  by_cases hx : x = wordL ((j : Int) + 1)
  · rw [if_pos hx, hx, hk, if_pos (by omega)]
  · rw [if_neg hx]
    by_cases h0 : kindOf x = 0
    · rw [if_neg (by omega), if_neg (by omega)]
    · have hne : kindOf x ≠ (j : Int) + 1 := fun e => hx (by rw [← e, word_kindOf h0])
      by_cases h1 : kindOf x ≤ j
      · rw [if_pos ⟨h0, h1⟩, if_pos ⟨h0, by omega⟩]
      · rw [if_neg (fun h => h1 h.2), if_neg (by omega)]

theorem mturned {B : Nat} {w w1 w2 : World} {b : Nat} (h : Below B w w1) (ht : w1.mapTurned w2 b) (hb : B ≤ b) (hs : B ≤ w1.heap.size) : Below B w w2 :=
  h.grown ht.grown hs (fun k hk => by injection hk with hk; omega)

set_option maxRecDepth 100000 in
set_option maxHeartbeats 4000000 in
theorem kinds_any (w : World) :
    Calls Tryd.prog 24 #[] w fun e w' => ∃ b, e = .returned (.map (some b)) ∧ SM w' b 6 (kmap 6) ∧ Below w.heap.size w w' := by
  go_enter Tryd.func24, Tryd.ntmps24
  have hmm := @run_makeMap Tryd.prog
  go_wp2_with fail
  clear hmm
  go_loopw [2] (fun i wr => ∃ k : Nat, k ≤ 6 ∧ i = .int .i64 ((k : Int) + 1) ∧ Hid (SM wr w.heap.size k (kmap k)) ∧ Hid (Below w.heap.size w wr)) (fun i _ => 7 - (intOf i).toNat)
  case atStart => exact ⟨0, by omega, rfl, Lib.hid ((SM.made w).congr fun x _ => by unfold kmap; rw [if_neg]; have := kindOf_range x; omega), Lib.hid (bel1 _ _)⟩
  case round =>
    obtain ⟨k, hk, rfl, HM, HB⟩ := hrel
    have hszr := HB.out.size
    rcases Nat.lt_or_ge k 6 with hlt | hge
    · have t1 : decide ((k : Int) + 1 ≤ 6) = true := by simp; omega
      have HS := Lib.hid (kmap_succ k hlt)
      have hwl : SOk (wordL ((k : Int) + 1)) := by
        unfold SOk wordL maxLen
        repeat (split; · simp)
        simp
      have HW := Lib.hid hwl
      obtain ⟨W, hW⟩ : ∃ W, W = wordL ((k : Int) + 1) := ⟨_, rfl⟩
      rw [← hW] at HS HW
      have HWe := Lib.hid hW
      clear hW hwl
      go_wp2_with (first
        | (go_at_call 29; refine (word_any ((k : Int) + 1) wr).mono ?_; rw [← HWe.out]; rintro e w' ⟨rfl, rfl⟩)
        | (refine sPut Tryd.underlying48 _ _ _ rfl rfl (by rfl) HM.out HW.out (by rfl) (by rfl) (by unfold maxLen; omega) ?_; intro wE hME htE; have HME := Lib.hid hME; have HTE := Lib.hid htE; clear hME htE))
      exact ⟨⟨k + 1, hlt, by go_num, Lib.hid (by rw [← HS.out]; exact HME.out), Lib.hid (mturned HB.out HTE.out (Nat.le_refl _) hszr)⟩, by simp [intOf]; omega⟩
    · obtain rfl : k = 6 := by omega
      go_wp2_with fail
      go_ret
      exact ⟨_, rfl, HM.out, HB.out⟩
end Go.Proofs.YtmaifldiondchaaDoor
