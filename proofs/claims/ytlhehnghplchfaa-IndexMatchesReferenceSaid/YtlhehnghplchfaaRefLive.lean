/- tollref20.Live and Has. -/
import Derived.Test.YtlhehnghplchfaaCount
import Derived.Test.YtlhehnghplchfaaEqE
import Derived.Test.YtlhehnghplchfaaQLoad
import Derived.Test.YtlhehnghplchfaaElems
import Derived.Test.YtlhehnghplchfaaEnt
import Derived.Test.YtlhehnghplchfaaStep
import Derived.Deep.QuietTactic
namespace Go.Proofs.Ytlhehnghplchfaa
open Go.RowKit

theorem tEnt : SlT Try.prog 24 31 33 40 := SlT.mk' Try.underlying24 (z := .agg (entC (List.replicate 32 0) 0).toArray) (by kernel_rfl) rfl (by decide)
theorem entP_one (p : List Int × Int) : ∀ u ∈ entP p, u.oneCell' = true := fun u hu => by
  have := entC_one p.1 p.2
  simp only [List.all_toArray, List.all_eq_true] at this
  exact this u hu
theorem build_row (l : List Value) (n : Nat) (hl : l.length = n) (Z : Array Value) (hz : Z.size = n) : l.zipIdx.foldl (fun (cs : Array Value) (x : Value × Nat) => cs.setIfInBounds x.2 x.1) Z = l.toArray := by
  apply Array.ext_getElem?
  intro i
  rw [set_many, hz, hl, show l.toArray[i]? = l[i]? by simp]
  by_cases h : i < n
  · rw [if_pos (by omega), Nat.sub_zero]
  · rw [if_neg (by omega), Array.getElem?_eq_none (by omega), List.getElem?_eq_none (by omega)]
theorem run_eqD {p q : List Int} (hp : DigOk p) (hq : DigOk q) (w : World) : (Op.equalIn 10000 26 (.agg (u8s p).toArray) (.agg (u8s q).toArray)).run Try.prog w = .ok (decide (p = q)) w := by
  have hu := Try.underlying26
  have hc : Try.prog.cellsOf 26 = 32 := by kernel_rfl
  have form : ∀ x : List Int, DigOk x → Value.formed Try.prog 26 (.agg (u8s x).toArray) = true := fun x hx => by
    unfold Value.formed
    rw [hu]
    simp [hc, u8s, hx.len]
  have cells : ∀ x : List Int, (Value.agg (u8s x).toArray).cells.toList = u8s x := fun x => by
    show (u8s x).toArray.toList = _
    simp
  obtain ⟨r, hr, hiff⟩ := run_equalIn_deep (P := Try.prog) 9997 3 26 (by kernel_rfl) w 3 3 (.agg (u8s p).toArray) (.agg (u8s q).toArray) _ _ (form p hp) (form q hq) (by rw [cells]; exact lits_dig 1 hp) (by rw [cells]; exact lits_dig 1 hq)
  rw [hr]
  congr 1
  by_cases h : p = q
  · subst h
    simpa using hiff.2 rfl
  · have : ¬ r = true := fun e => h (by
      have := lits_inj (p := (p, 0)) (q := (q, 0)) (by rw [hiff.1 e])
      exact congrArg Prod.fst this)
    simpa [h] using this

set_option maxRecDepth 100000 in
set_option maxHeartbeats 2000000 in
theorem ref_live_any (va : Value) (l : List (List Int × Int)) (now : Int) (w : World) (hs : Sn w 33 va l.length (l.flatMap entP)) (hok : ∀ p ∈ l, EntOk p) (hl : l.length ≤ 1000) :
    Calls Try.prog 14 #[va, .int .i64 now] w fun e w' => ∃ v, e = .returned v ∧ Sn w' 33 v (liveL l now).length ((liveL l now).flatMap entP) ∧ Below w.heap.size w w' := by
  obtain ⟨A, cap, rfl, hcap, _, _⟩ := id hs
  have HS := Lib.hid hs
  have HOK := Lib.hid hok
  clear hs hok
  go_enter Try.func14, Try.ntmps14
  go_wp2_with fail
  go_loopw [5, 6] (fun m i wr => ∃ k : Nat, k ≤ l.length ∧ i = .int .i64 k ∧ wr.ownsRow w.heap.size 31 33 m (liveL (l.take k) now).length ((liveL (l.take k) now).flatMap entP) ∧ Below w.heap.size w wr) (fun _ i _ => l.length - (intOf i).toNat)
  case atStart => exact ⟨0, Nat.zero_le _, rfl, World.ownsRow_nil _ _ _ _, Below.refl _ _⟩
  case round =>
    obtain ⟨k, hk, rfl, hown, hb⟩ := hrel
    by_cases hlt : k < l.length
    · obtain ⟨b, off, rfl, hr⟩ := at_elem entP EntOk 33 entP_length (HS.out.below hb) HOK.out k hlt
      replace hr : wr.rangeAt b (off + k * 33) (entP l[k]) := hr
      have hpk := HOK.out l[k] (List.getElem_mem hlt)
      have hlen := entP_length l[k] hpk
      have h32 : (u8s l[k].1).length = 32 := by simp [u8s, hpk.dig.len]
      have htc : wr.cell? ⟨b, off + k * 33 + 32, none⟩ = some (.int .i64 l[k].2) := hr 32 _ (by
        simp only [entP, entC]
        rw [List.getElem?_append_right (by omega), h32]
        rfl)
      have HR := Lib.hid hr
      clear hr
      have h1 := entP_one l[k]
      have hbuild := build_row (entP l[k]) 33 hlen
      have hsnoc : Hid (liveL (l.take (k + 1)) now = liveL (l.take k) now ++ (if decide (now ≤ l[k].2) = true then [l[k]] else [])) := Lib.hid (by
        unfold liveL
        rw [List.take_succ_eq_append_getElem hlt, List.filter_append]
        congr 1
        by_cases h : now ≤ l[k].2 <;> simp [h])
      obtain ⟨L, hL⟩ : ∃ L, L = liveL (l.take k) now := ⟨_, rfl⟩
      have hLl : L.length ≤ k := by
        rw [hL]; unfold liveL
        have := List.length_filter_le (fun p : List Int × Int => decide (now ≤ p.2)) (l.take k)
        rw [List.length_take] at this
        omega
      rw [← hL] at hown hsnoc
      clear hL
      have hsz := hb.size
      have hi0 : (0 : Int) ≤ k := by omega
      have hi1 : (k : Int) < l.length := by omega
      rcases Bool.eq_false_or_eq_true (decide (now ≤ l[k].2)) with t1 | t1
      · rw [t1, if_pos rfl] at hsnoc
        have hoA := own_below hown (balloc (Below.refl _ wr) (.cells (entP l[k]).toArray 31))
        have hnA := Sn.new wr (entP l[k]).toArray 31 33 1 (by simp [hlen])
        go_wp2_with (first
          | (refine ld 31 _ rfl rfl rfl HR.out Try.underlying31 rfl (by rw [hlen]; kernel_rfl) ?_)
          | (at_builtin; refine app tEnt (.tmp 20) (.tmp 25) rfl rfl (v := u5) rfl hoA rfl hnA (fun u hu => h1 u (by simpa using hu)) (by unfold maxLen; omega) (by omega) (by simp; omega) ?_; intro v4 w4 hown4 hg4 _))
        have hb4 : Below w.heap.size w w4 := (hb.alloc hb.size (.cells (entP l[k]).toArray 31)).grown hg4 (by simp; omega) (fun g hg => (hoA.lt g hg).1)
        refine ⟨⟨k + 1, by omega, by go_num, ?_, hb4⟩, by simp [intOf]; omega⟩
        rw [hsnoc.out, List.length_append, List.flatMap_append]
        simpa using hown4
      · rw [t1, if_neg (by simp)] at hsnoc
        go_wp2_with fail
        refine ⟨⟨k + 1, by omega, by go_num, ?_, hb⟩, by simp [intOf]; omega⟩
        rw [hsnoc.out, List.append_nil]
        exact hown
    · obtain rfl : k = l.length := by omega
      rw [List.take_length] at hown
      go_wp2_with fail
      go_ret
      exact ⟨_, rfl, Sn.own hown, hb⟩
end Go.Proofs.Ytlhehnghplchfaa
