/- Pieces of strings, and the reference's words. -/
import Derived.Test.YtmaifldiondchaaDoorPar2
namespace Go.Proofs.YtmaifldiondchaaDoor
open Go.RowKit
set_option linter.unusedSimpArgs false

theorem SB_extract (s : Bs) (f k : Nat) : (SB s).extract f k = SB ((s.drop f).take (k - f)) := by
  apply ByteArray.ext
  rw [ByteArray.data_extract]
  apply Array.toList_inj.1
  rw [Array.toList_extract]
  show (s.toArray.toList.drop f).take (k - f) = (((s.drop f).take (k - f)).toArray).toList
  rw [List.toList_toArray, List.toList_toArray]
theorem cut_run (s : Bs) (f k : Nat) (h1 : f ≤ k) (h2 : k ≤ s.length) (w : World) : (Instr.sliceAt 9 (.string (SB s)) (some (.int .i64 (f : Int))) (some (.int .i64 (k : Int))) none).run Tryd.prog w = .ok (.string (SB ((s.drop f).take (k - f)))) w := by
  rw [run_sliceAt_string w _ _ _ _ _ Tryd.underlying9, run_slice_string_if w _ _ _ _ _ _ Tryd.underlying9, if_pos (by rw [SB_size]; omega), if_pos (by omega), Int.toNat_natCast, Int.toNat_natCast, SB_extract]
theorem from_run (s : Bs) (f : Nat) (h2 : f ≤ s.length) (w : World) : (Instr.sliceAt 9 (.string (SB s)) (some (.int .i64 (f : Int))) none none).run Tryd.prog w = .ok (.string (SB (s.drop f))) w := by
  rw [run_sliceAt_string w _ _ _ _ _ Tryd.underlying9, run_slice_string_from_if w _ _ _ _ Tryd.underlying9, if_pos (by rw [SB_size]; omega), Int.toNat_natCast, SB_extract, SB_size]
  rw [List.take_of_length_le (by simp)]
def strC (l : List Bs) : List Value := l.map fun x => .string (SB x)
theorem strC_length (l : List Bs) : (strC l).length = l.length := by simp [strC]
theorem strC_append (x y : List Bs) : strC (x ++ y) = strC x ++ strC y := by simp [strC]
theorem strC_one (l : List Bs) : ∀ u ∈ strC l, u.oneCell' = true := by
  intro u hu
  simp only [strC, List.mem_map] at hu
  obtain ⟨_, _, rfl⟩ := hu
  rfl
theorem tStr : SlT Tryd.prog 50 9 1 16 := SlT.mk' Tryd.underlying50 (z := .string ⟨#[]⟩) (by kernel_rfl) rfl (by decide)
def OwnS (w : World) (base : Nat) (v : Value) (l : List Bs) : Prop := w.ownsRow base 9 1 v l.length (strC l)
theorem split_at {s : Bs} {f k : Nat} (c : UInt8) (h1 : f ≤ k) (h2 : k < s.length) (hn : ∀ j, f ≤ j → j < k → s[j]? ≠ some c) (hc : s[k] = c) : split c (s.drop f) = (s.drop f).take (k - f) :: split c (s.drop (k + 1)) := by
  have e : s.drop f = (s.drop f).take (k - f) ++ c :: s.drop (k + 1) := by
    conv => lhs; rw [← List.take_append_drop (k - f) (s.drop f)]
    congr 1
    rw [List.drop_drop, show f + (k - f) = k by omega, List.drop_eq_getElem_cons h2, hc]
  conv => lhs; rw [e]
  refine split_app c _ _ (fun hm => ?_)
  obtain ⟨j, hj, e⟩ := List.getElem_of_mem hm
  rw [List.length_take, List.length_drop] at hj
  rw [List.getElem_take, List.getElem_drop] at e
  exact hn (f + j) (by omega) (by omega) (by rw [List.getElem?_eq_getElem (by omega), e])
theorem split_end {s : Bs} {f : Nat} (c : UInt8) (h1 : f ≤ s.length) (hn : ∀ j, f ≤ j → j < s.length → s[j]? ≠ some c) : split c (s.drop f) = [s.drop f] := by
  refine split_word c _ (fun hm => ?_)
  obtain ⟨j, hj, e⟩ := List.getElem_of_mem hm
  rw [List.length_drop] at hj
  rw [List.getElem_drop] at e
  exact hn (f + j) (by omega) (by omega) (by rw [List.getElem?_eq_getElem (by omega), e])

set_option maxRecDepth 100000 in
set_option maxHeartbeats 4000000 in
theorem words_any (s : Bs) (w : World) (hs : s.length ≤ 100000000) :
    Calls Tryd.prog 25 #[.string (SB s)] w fun e w' => ∃ v, e = .returned v ∧ OwnS w' w.heap.size v (split 32 s) ∧ Below w.heap.size w w' := by
  have HIX := Lib.hid (idx_at s)
  have HCUT := Lib.hid (cut_run s)
  have HFROM := Lib.hid (from_run s)
  obtain ⟨S, hS⟩ : ∃ S, S = SB s := ⟨_, rfl⟩
  have hsz : S.size = s.length := by rw [hS, SB_size]
  rw [← hS] at HIX HCUT HFROM ⊢
  clear hS
  go_enter Tryd.func25, Tryd.ntmps25
  go_wp2_with fail
  go_loopw [3, 4, 5] (fun out fr i wr => ∃ (k f : Nat) (done : List Bs), f ≤ k ∧ k ≤ s.length ∧ fr = .int .i64 f ∧ i = .int .i64 k ∧ done.length ≤ f ∧ Hid (OwnS wr w.heap.size out done) ∧ Hid (Below w.heap.size w wr) ∧ Hid (split 32 s = done ++ split 32 (s.drop f)) ∧ Hid (∀ j, f ≤ j → j < k → s[j]? ≠ some 32)) (fun _ _ i _ => s.length - (intOf i).toNat)
  case atStart => exact ⟨0, 0, [], Nat.le_refl _, Nat.zero_le _, rfl, rfl, Nat.le_refl _, Lib.hid (World.ownsRow_nil _ _ _ _), Lib.hid (Below.refl _ _), Lib.hid rfl, Lib.hid (fun j h1 h2 => by omega)⟩
  case round =>
    obtain ⟨k, f, done, hfk, hk, rfl, rfl, hdl, HO, HB, HE, HN⟩ := hrel
    have hszr := HB.out.size
    obtain ⟨A4, c4, e4, _⟩ := id (show ∃ A4 c4, u3 = .slice A4 done.length c4 ∧ True by
      rcases HO.out.2 with ⟨h1, h2⟩ | ⟨g, cap, cur, h1, _⟩
      · exact ⟨none, 0, by rw [h1, h2], trivial⟩
      · exact ⟨_, _, h1, trivial⟩)
    subst e4
    rcases Nat.lt_or_ge k s.length with hlt | hge
    · have hi := HIX.out k hlt
      rcases Bool.eq_false_or_eq_true (((s[k].toNat : Int)) == 32) with t1 | t1
      · have hc : s[k] = 32 := UInt8.toNat_inj.1 (by have := beq_iff_eq.1 t1; have : (32 : UInt8).toNat = 32 := rfl; omega)
        have HS2 : Hid (split 32 s = (done ++ [(s.drop f).take (k - f)]) ++ split 32 (s.drop (k + 1))) := Lib.hid (by rw [HE.out, split_at 32 hfk hlt HN.out hc, List.append_assoc]; rfl)
        have hcut := HCUT.out f k hfk hk
        obtain ⟨p, hp⟩ : ∃ p, p = (s.drop f).take (k - f) := ⟨_, rfl⟩
        rw [← hp] at HS2 hcut
        obtain ⟨z, hz⟩ : ∃ z, z = s[k].toNat := ⟨_, rfl⟩
        rw [← hz] at hi t1
        clear hc hp hz
        go_wp2_with (at_builtin; refine app tStr (.tmp 16) (.tmp 21) rfl rfl (by rfl) (World.ownsRow.alloc HO.out _) (by rfl) (Sn.new wr (strC [p]).toArray 9 1 1 rfl) (strC_one [p]) (by unfold maxLen; omega) (by omega) (by simp; omega) ?_; intro v3 w3 hown hgrow _; rw [List.toList_toArray, ← strC_append] at hown; have HO3 := Lib.hid hown; have HB3 := Lib.hid ((HB.out.alloc hszr _).grown hgrow (by simp; omega) (fun g hg => (World.ownsRow.lt HO.out g hg).1)); clear hown hgrow)
        exact ⟨⟨k + 1, k + 1, done ++ [p], by omega, by omega, by go_num, by go_num, by simp; omega, Lib.hid (by unfold OwnS; rw [List.length_append]; exact HO3.out), HB3, HS2, Lib.hid (fun j h1 h2 => by omega)⟩, by simp [intOf]; omega⟩
      · have HN2 : Hid (∀ j, f ≤ j → j < k + 1 → s[j]? ≠ some 32) := Lib.hid (fun j h1 h2 => by
          by_cases h : j < k
          · exact HN.out j h1 h
          · obtain rfl : j = k := by omega
            rw [List.getElem?_eq_getElem hlt]
            intro e
            have e := Option.some.inj e
            rw [e] at t1
            exact absurd t1 (by decide))
        obtain ⟨z, hz⟩ : ∃ z, z = s[k].toNat := ⟨_, rfl⟩
        rw [← hz] at hi t1
        clear hz
        go_wp2_with fail
        exact ⟨⟨k + 1, f, done, by omega, by omega, rfl, by go_num, hdl, HO, HB, HE, HN2⟩, by simp [intOf]; omega⟩
    · obtain rfl : k = s.length := by omega
      have hfrom := HFROM.out f hfk
      have HS2 : Hid (split 32 s = done ++ [s.drop f]) := Lib.hid (by rw [HE.out, split_end 32 hfk HN.out])
      obtain ⟨p, hp⟩ : ∃ p, p = s.drop f := ⟨_, rfl⟩
      rw [← hp] at HS2 hfrom
      clear hp
      go_wp2_with (at_builtin; refine app tStr (.tmp 25) (.tmp 29) rfl rfl (by rfl) (World.ownsRow.alloc HO.out _) (by rfl) (Sn.new wr (strC [p]).toArray 9 1 1 rfl) (strC_one [p]) (by unfold maxLen; omega) (by omega) (by simp; omega) ?_; intro v3 w3 hown hgrow _; rw [List.toList_toArray, ← strC_append] at hown; have HO3 := Lib.hid hown; have HB3 := Lib.hid ((HB.out.alloc hszr _).grown hgrow (by simp; omega) (fun g hg => (World.ownsRow.lt HO.out g hg).1)); clear hown hgrow)
      go_ret
      exact ⟨_, rfl, by rw [HS2.out]; unfold OwnS; rw [List.length_append]; exact HO3.out, HB3.out⟩
end Go.Proofs.YtmaifldiondchaaDoor
