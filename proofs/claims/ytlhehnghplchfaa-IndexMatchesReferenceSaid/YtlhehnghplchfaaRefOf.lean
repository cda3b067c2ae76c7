/- tollref20.Of. -/
import Derived.Test.YtlhehnghplchfaaRefPutW
namespace Go.Proofs.Ytlhehnghplchfaa
open Go.RowKit

theorem refPut_mem (L : List (List Int × Int)) (e : List Int × Int) (h : ∀ p ∈ L, EntOk p) (he : EntOk e) : ∀ p ∈ (refPut L e).1, EntOk p := by
  have key : ∀ (L : List (List Int × Int)) (s : List (List Int × Int) × Bool), (∀ p ∈ L, EntOk p) → (∀ p ∈ s.1, EntOk p) → ∀ p ∈ (L.foldl (putStep e) s).1, EntOk p := by
    intro L
    induction L with
    | nil => intro s _ h p hp; exact h p hp
    | cons q L ih =>
      intro s hL hs
      rw [List.foldl_cons]
      refine ih _ (fun p hp => hL p (by simp [hp])) fun p hp => ?_
      have hq := hL q (by simp)
      have hs' : ∀ p ∈ (if !s.2 && decide (cmpE e q < 0) then (s.1 ++ [e], true) else s).1, EntOk p := by
        intro p hp
        split at hp
        · rcases List.mem_append.1 hp with hp | hp
          · exact hs p hp
          · obtain rfl : p = e := by simpa using hp
            exact he
        · exact hs p hp
      unfold putStep at hp
      simp only at hp
      by_cases hd : decide (q.1 = e.1) = true
      · rw [if_pos hd] at hp
        exact hs' p hp
      · rw [if_neg hd] at hp
        rcases List.mem_append.1 hp with hp | hp
        · exact hs' p hp
        · obtain rfl : p = q := by simpa using hp
          exact hq
  intro p hp
  unfold refPut at hp
  split at hp
  · exact h p hp
  · have := key L ([], false) h (by simp)
    simp only at hp
    split at hp
    · exact this p hp
    · rcases List.mem_append.1 hp with hp | hp
      · exact this p hp
      · obtain rfl : p = e := by simpa using hp
        exact he
theorem refOf_mem (l : List (List Int × Int)) (h : ∀ p ∈ l, EntOk p) : ∀ p ∈ refOf l, EntOk p := by
  unfold refOf
  have key : ∀ (l o : List (List Int × Int)), (∀ p ∈ l, EntOk p) → (∀ p ∈ o, EntOk p) → ∀ p ∈ l.foldl (fun o e => (refPut o e).1) o, EntOk p := by
    intro l
    induction l with
    | nil => intro o _ h; exact h
    | cons q l ih =>
      intro o hl ho
      rw [List.foldl_cons]
      exact ih _ (fun p hp => hl p (by simp [hp])) (refPut_mem o q ho (hl q (by simp)))
  exact key l [] h (by simp)
attribute [local irreducible] refOf refPut

set_option maxRecDepth 100000 in
set_option maxHeartbeats 2000000 in
theorem ref_of_any (va : Value) (l : List (List Int × Int)) (w : World) (hs : Sn w 33 va l.length (l.flatMap entP)) (hok : ∀ p ∈ l, EntOk p) (hl : l.length ≤ 1000) :
    Calls Try.prog 11 #[va] w fun e w' => ∃ v, e = .returned v ∧ Sn w' 33 v (refOf l).length ((refOf l).flatMap entP) ∧ Below w.heap.size w w' := by
  obtain ⟨A, cap, rfl, hcap, _, _⟩ := id hs
  have HS := Lib.hid hs
  have HOK := Lib.hid hok
  clear hs hok
  go_enter Try.func11, Try.ntmps11
  go_wp2_with fail
  go_loopw [3, 4] (fun m i wr => ∃ k : Nat, k ≤ l.length ∧ i = .int .i64 k ∧ Sn wr 33 m (refOf (l.take k)).length ((refOf (l.take k)).flatMap entP) ∧ Below w.heap.size w wr) (fun _ i _ => l.length - (intOf i).toNat)
  case atStart => exact ⟨0, Nat.zero_le _, rfl, by unfold refOf; exact ⟨none, 0, rfl, Nat.le_refl _, rfl, fun h => absurd h (by simp)⟩, Below.refl _ _⟩
  case round =>
    obtain ⟨k, hk, rfl, hsn, hb⟩ := hrel
    by_cases hlt : k < l.length
    · obtain ⟨b, off, rfl, hr⟩ := at_elem entP EntOk 33 entP_length (HS.out.below hb) HOK.out k hlt
      replace hr : wr.rangeAt b (off + k * 33) (entP l[k]) := hr
      have HR := Lib.hid hr
      have hpk := HOK.out l[k] (List.getElem_mem hlt)
      have hlen := entP_length l[k] hpk
      have hsnoc := Lib.hid (refOf_snoc l k hlt)
      have hmem := Lib.hid (refOf_mem (l.take k) (fun p hp => HOK.out p (List.mem_of_mem_take hp)))
      have hle := refOf_len (l.take k)
      rw [List.length_take, Nat.min_eq_left (by omega)] at hle
      obtain ⟨O, hO⟩ : ∃ O, O = refOf (l.take k) := ⟨_, rfl⟩
      rw [← hO] at hsn hsnoc hmem hle
      clear hr hO
      have HSN := Lib.hid hsn
      clear hsn
      have hi0 : (0 : Int) ≤ k := by omega
      have hi1 : (k : Int) < l.length := by omega
      go_wp2_with (first
        | (refine ld 31 _ rfl rfl rfl HR.out Try.underlying31 rfl (by rw [hlen]; kernel_rfl) ?_))
      refine (ref_put_any _ O l[k] wr HSN.out hmem.out (by omega) hpk).mono ?_
      rintro e w2 ⟨v, rfl, hsn2, hb2⟩
      go_wp2_with fail
      refine ⟨⟨k + 1, by omega, by go_num, ?_, bstep hb hb2⟩, by simp [intOf]; omega⟩
      rw [hsnoc.out]
      exact hsn2
    · obtain rfl : k = l.length := by omega
      rw [List.take_length] at hsn
      go_wp2_with fail
      go_ret
      exact ⟨_, rfl, hsn, hb⟩
end Go.Proofs.Ytlhehnghplchfaa
