/- The index: New, of any entries. -/
import Derived.Test.YtlhehnghplchfaaIdx2
import Derived.Test.YtlhehnghplchfaaElems
namespace Go.Proofs.Ytlhehnghplchfaa
open Go.RowKit

def entP (p : List Int × Int) : List Value := entC p.1 p.2
structure EntOk (p : List Int × Int) : Prop where
  dig : DigOk p.1
  exp : isI64 p.2
theorem entP_length (p : List Int × Int) (h : EntOk p) : (entP p).length = 33 := entC_length h.dig _
def idxS (l : List (List Int × Int)) : (List Int → Option Int) × Nat := l.foldl (fun s p => (putF s.1 p.1 p.2, putC s.1 p.1 s.2)) (fun _ => none, 0)
theorem idxS_snoc (l : List (List Int × Int)) (k : Nat) (h : k < l.length) : idxS (l.take (k + 1)) = (putF (idxS (l.take k)).1 l[k].1 l[k].2, putC (idxS (l.take k)).1 l[k].1 (idxS (l.take k)).2) := by
  unfold idxS
  rw [List.take_succ_eq_append_getElem h, List.foldl_append]
  rfl
attribute [irreducible] idxS

set_option maxRecDepth 100000 in
set_option maxHeartbeats 2000000 in
theorem new_any (v : Value) (l : List (List Int × Int)) (w : World) (hs : Sn w 33 v l.length (l.flatMap entP)) (hok : ∀ p ∈ l, EntOk p) (hl : l.length ≤ 1000) :
    Calls Try.prog 10 #[v] w fun e w' => ∃ g b, e = .returned (.pointer (some ⟨g, 0, none⟩)) ∧ IX w' g b l.length (idxS l).1 (idxS l).2 ∧ w.heap.size ≤ g ∧ w.heap.size ≤ b ∧ Below w.heap.size w w' := by
  obtain ⟨A, cap, rfl, hcap, _, _⟩ := id hs
  have HS := Lib.hid hs
  have HOK := Lib.hid hok
  clear hs hok
  have hmk : ∀ w : World, (Instr.makeMap 53 none).run Try.prog w = .ok (.map (some w.heap.size)) (w.alloc (.map #[] 0)) := fun w => run_makeMap _ w
  go_enter Try.func10, Try.ntmps10
  go_wp2_with fail
  clear hmk
  go_loopw [11] (fun i wr => ∃ k : Nat, k ≤ l.length ∧ i = .int .i64 k ∧ IX wr (w.heap.size + 1) w.heap.size k (idxS (l.take k)).1 (idxS (l.take k)).2 ∧ Below w.heap.size w wr) (fun i _ => l.length - (intOf i).toNat)
  case atStart =>
    refine ⟨0, Nat.zero_le _, rfl, ⟨?_, by omega, ?_⟩, (by repeat (first | exact Below.refl _ _ | assumption | refine bdrewN ?_ _ | refine Below.setCell ?_ (by first | exact Nat.le_refl _ | assumption | omega | (simp <;> omega)) _ | refine Below.alloc ?_ (by first | exact Nat.le_refl _ | assumption | omega | (simp <;> omega)) _))⟩
    · exact (Blk.newAt (w.alloc (.map #[] 0)) 55 #[.map (some w.heap.size)] (w.heap.size + 1) (by simp)).cell 0
    · unfold idxS
      exact (DM.made w).keep ((Below.refl _ _).alloc (Nat.le_refl _) _)
  case round =>
    obtain ⟨k, hk, rfl, hX, hb⟩ := hrel
    by_cases hlt : k < l.length
    · obtain ⟨b, off, rfl, hr⟩ := at_elem entP EntOk 33 entP_length (HS.out.below hb) HOK.out k hlt
      have hr : wr.rangeAt b (off + k * 33) (entP l[k]) := hr
      have hpk := HOK.out l[k] (List.getElem_mem hlt)
      have hlen := entP_length l[k] hpk
      have h1 : (entP l[k]).toArray.all (·.oneCell') = true := entC_one l[k].1 l[k].2
      have hsnoc := Lib.hid (idxS_snoc l k hlt)
      have hsz := hb.size
      have hXlt := hX.2.2.lt
      have hi0 : (0 : Int) ≤ k := by omega
      have hi1 : (k : Int) < l.length := by omega
      go_wp2_with (first
        | (refine ld 31 _ rfl rfl rfl hr Try.underlying31 rfl (by rw [hlen]; kernel_rfl) ?_)
        | (refine stNew 31 (.tmp 5) (.tmp 14) rfl rfl rfl rfl (by simp only [List.size_toArray, hlen]; kernel_rfl) (by simp only [List.size_toArray, hlen] <;> rfl) h1 ?_; intro w2 hblk hb2 hsz2; have hr2 := Blk.range hblk; rw [List.toList_toArray] at hr2)
        | (refine ld 31 _ rfl rfl rfl hr2 Try.underlying31 rfl (by rw [hlen]; kernel_rfl) ?_))
      refine (put_any _ _ k _ _ l[k].1 l[k].2 w2 (hX.keep hb2) hpk.dig hpk.exp (by unfold maxLen; omega)).mono ?_
      rintro e w3 ⟨rfl, hX3, hoff⟩
      go_wp2_with fail
      refine ⟨⟨k + 1, by omega, by go_num, ?_, (bstep hb hb2).trans (hoff.below (Nat.le_refl _) (by omega))⟩, by simp [intOf]; omega⟩
      rw [hsnoc.out]
      exact hX3
    · obtain rfl : k = l.length := by omega
      rw [List.take_length] at hX
      go_wp2_with fail
      go_ret
      exact ⟨_, _, rfl, hX, Nat.le_succ _, Nat.le_refl _, hb⟩
end Go.Proofs.Ytlhehnghplchfaa
