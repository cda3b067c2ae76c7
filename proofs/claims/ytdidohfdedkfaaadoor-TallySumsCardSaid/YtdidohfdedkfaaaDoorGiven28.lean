/- tolllaw28.given: the rows with their kinds and codes. -/
import Derived.Test.YtdidohfdedkfaaaDoorTallyRef
import Derived.Test.YtdidohfdedkfaaaDoorStep
namespace Go.Proofs.YtdidohfdedkfaaaDoor
open Go.RowKit

def bare (r : RowD) : RowD := { kind := r.kind, code := r.code, now := 0, live := 0, dig := List.replicate 32 0 }
theorem bare_ok {r : RowD} (h : RowOk r) : RowOk (bare r) := ⟨h.kind, h.code, by simp [isI64, bare], by simp [isI64, bare], by simp [bare], by simp [bare]⟩
theorem tEng : SlT Tryd.prog 24 53 36 64 := SlT.mk' Tryd.underlying24 (z := .agg (rowC ⟨0, 0, 0, 0, List.replicate 32 0⟩).toArray) (by kernel_rfl) rfl (by decide)

theorem bare_size (r : RowD) : (rowC (bare r)).toArray.size = 1 * 36 := by simp [rowC, bare, u8s]
theorem rowC_one1 (r : RowD) : ∀ u ∈ (rowC r).toArray.toList, u.oneCell' = true := by
  intro v hv
  simp [rowC, u8s] at hv
  rcases hv with rfl | rfl | rfl | rfl | ⟨_, _, rfl⟩ <;> rfl

theorem map_snoc (f : RowD → RowD) (l : List RowD) (k : Nat) (h : k < l.length) : ((l.take k).map f).flatMap rowC ++ rowC (f l[k]) = ((l.take (k + 1)).map f).flatMap rowC := by
  rw [List.take_succ_eq_append_getElem h, List.map_append, List.flatMap_append]
  simp

def GivenPost (f : RowD → RowD) (l : List RowD) (w : World) (e : Ending) (w' : World) : Prop := ∃ v, e = .returned v ∧ Sn w' 36 v l.length ((l.map f).flatMap rowC) ∧ Below w.heap.size w w'

set_option maxRecDepth 100000 in
set_option maxHeartbeats 2000000 in
theorem given_any (v : Value) (l : List RowD) (w : World) (hs : Sn w 36 v l.length (l.flatMap rowC)) (hok : ∀ r ∈ l, RowOk r) (hl : l.length ≤ 1000) :
    Calls Tryd.prog 8 #[v] w (GivenPost bare l w) := by
  obtain ⟨A, cap, rfl, hcap, _, _⟩ := id hs
  go_enter Tryd.func8, Tryd.ntmps8
  go_wp2
  go_loopw [3, 4] (fun m i wr => ∃ k : Nat, k ≤ l.length ∧ i = .int .i64 k ∧ wr.ownsRow w.heap.size 53 36 m k (((l.take k).map bare).flatMap rowC) ∧ Below w.heap.size w wr) (fun _ i _ => l.length - (intOf i).toNat)
  case atStart => exact ⟨0, Nat.zero_le _, rfl, World.ownsRow_nil _ _ _ _, Below.refl _ _⟩
  case round =>
    obtain ⟨k, hk, rfl, hown, hb⟩ := hrel
    by_cases hlt : k < l.length
    · obtain ⟨b, off, rfl, hr⟩ := at_row (hs.below hb) hok k hlt
      have hc0 : wr.cell? ⟨b, off + k * 36, none⟩ = some (.int .i64 l[k].kind) := hr 0 _ rfl
      have hc1 : wr.cell? ⟨b, off + k * 36 + 1, none⟩ = some (.int .i64 l[k].code) := hr 1 _ rfl
      have hbw : b < w.heap.size := by
        obtain ⟨b', off', hA, hr'⟩ := at_row hs hok k hlt
        injection hA with hA; injection hA with hA _; subst hA
        exact cell_lt (hr' 0 _ rfl)
      have hnb : some b ≠ Value.ownBlock _ := fun e => by
        have := (hown.lt b e.symm).1
        omega
      have hsz := hb.size
      have hi0 : (0 : Int) ≤ k := by omega
      have hi1 : (k : Int) < l.length := by omega
      go_wp2_with fail
      go_region_held3 (fun w' => w'.cell? ⟨b, off + k * 36, none⟩ = some (.int .i64 l[k].kind) ∧ w'.cell? ⟨b, off + k * 36 + 1, none⟩ = some (.int .i64 l[k].code))
        (first | go_keep | (go_split_ands; refine ⟨?_, ?_⟩ <;> (refine hgrow.cell (by assumption) hnb)))
        ((refine stepApp tEng _ _ (by rfl) (by rfl) (by rfl) ((hown.alloc _).drew) (by rfl) (Sn.new wr (rowC (bare l[k])).toArray _ 36 1 (bare_size _)) (rowC_one1 _) (by unfold maxLen; omega) (by omega) (by simp; omega) ?_; intro v' w1 hown1 hgrow _))
      have hb1 := ((hb.alloc hsz _).drew).grown hgrow (by simp; omega) (fun g hg => (hown.lt g hg).1)
      rw [List.toList_toArray, map_snoc bare l k hlt] at hown1
      clear hgrow hown hr
      go_wp2
      exact ⟨⟨k + 1, by omega, by go_num, hown1, hb1⟩, by simp [intOf]; omega⟩
    · go_wp2
      go_ret
      have : k = l.length := by omega
      subst this
      rw [List.take_length] at *
      refine ⟨_, rfl, Sn.own hown, hb⟩
end Go.Proofs.YtdidohfdedkfaaaDoor
