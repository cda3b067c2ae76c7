/- tally.Table: the numbers of the answers with each code. -/
import Derived.Test.YtdidohfdedkfaaaDoorTallyRef
namespace Go.Proofs.YtdidohfdedkfaaaDoor
open Go.RowKit

def tbl (l : List RowD) : List Value := (List.range 11).map fun c => Value.int .i64 (nCode l (c : Nat))
theorem tbl_get (l : List RowD) (n : Nat) (h : n ≤ 10) : (tbl l).toArray[n]? = some (.int .i64 (nCode l n)) := by
  simp [tbl, show n < 11 by omega]
theorem tbl_in (l : List RowD) (k n : Nat) (h : k < l.length) (_hn : n ≤ 10) (t1 : (l[k].kind == 3) = true) (hc : l[k].code = n) :
    (tbl (l.take k)).toArray.setIfInBounds n (.int .i64 ((nCode (l.take k) n : Int) + 1)) = (tbl (l.take (k + 1))).toArray := by
  apply Array.ext
  · simp [tbl]
  · intro i h1 h2
    have hi : i < 11 := by simpa [tbl] using h2
    rw [Array.getElem_setIfInBounds (by simpa [tbl] using h2)]
    have e := nCode_snoc l (i : Nat) k h
    simp only [tbl, List.getElem_toArray, List.getElem_map, List.getElem_range]
    rw [e]
    by_cases hni : n = i
    · subst hni; simp [t1, hc]
    · have : ¬ (l[k].code = (i : Int)) := by omega
      simp [hni, this]
theorem tbl_out (l : List RowD) (k : Nat) (h : k < l.length) (hc : (l[k].kind == 3) = false ∨ l[k].code < 0 ∨ 10 < l[k].code) : tbl (l.take k) = tbl (l.take (k + 1)) := by
  unfold tbl
  apply List.map_congr_left
  intro i hi
  have hi : i < 11 := by simpa using hi
  have e := nCode_snoc l (i : Nat) k h
  rw [e]
  rcases hc with hc | hc
  · simp [hc]
  · have : ¬ (l[k].code = (i : Int)) := by omega
    simp [this]
theorem tbl_one (l : List RowD) : (tbl l).toArray.all (·.oneCell') = true := by
  refine all_oneCell_toArray fun v hv => ?_
  simp only [tbl, List.mem_map] at hv
  obtain ⟨c, _, rfl⟩ := hv
  rfl
theorem tbl_size (l : List RowD) : (tbl l).toArray.size = 11 := by simp [tbl]
attribute [irreducible] tbl

set_option maxHeartbeats 4000000 in
theorem table_any (v : Value) (l : List RowD) (w : World) (hs : Sn w 36 v l.length (l.flatMap rowC)) (hok : ∀ r ∈ l, RowOk r) (hl : l.length ≤ 1000) :
    Calls Tryd.prog 9 #[v] w fun e w' => e = .returned (.agg (tbl l).toArray) ∧ Below w.heap.size w w' := by
  obtain ⟨A, cap, rfl, hcap, _, _⟩ := id hs
  have hz : (tbl (l.take 0)).toArray = #[.int .i64 0, .int .i64 0, .int .i64 0, .int .i64 0, .int .i64 0, .int .i64 0, .int .i64 0, .int .i64 0, .int .i64 0, .int .i64 0, .int .i64 0] := by unfold tbl; rfl
  have HZ := Lib.hid hz
  clear hz
  go_enter Tryd.func9, Tryd.ntmps9
  go_wp2
  go_loopw [8] (fun i wr => ∃ k : Nat, k ≤ l.length ∧ i = .int .i64 k ∧ Below w.heap.size w wr ∧ Blk wr (w.heap.size + 1) 26 (tbl (l.take k)).toArray ∧ (∃ cs, cs.size = 11 ∧ Blk wr w.heap.size 26 cs)) (fun i _ => l.length - (intOf i).toNat)
  case atStart =>
    refine ⟨0, Nat.zero_le _, rfl, (by repeat (first | exact Below.refl _ _ | assumption | refine bdrewN ?_ _ | refine Below.setCell ?_ (by first | exact Nat.le_refl _ | assumption | omega | (simp <;> omega)) _ | refine Below.alloc ?_ (by first | exact Nat.le_refl _ | assumption | omega | (simp <;> omega)) _)), ?_, ⟨_, ?_, (Blk.new _ _ _).alloc _⟩⟩
    · rw [HZ.out]; exact Blk.newAt _ _ _ _ (by simp)
    · rfl
  case round =>
    obtain ⟨k, hk, rfl, hb, hB, cs, hcs, hB0⟩ := hrel
    by_cases hlt : k < l.length
    · obtain ⟨b, off, rfl, hr⟩ := at_row (hs.below hb) hok k hlt
      have hlen := rowC_length (hok l[k] (List.getElem_mem hlt))
      have h1 := rowC_one l[k]
      have hsz := hb.size
      have hBlt := hB.lt
      have hle := nCode_le (l.take k)
      have bl : (l.take k).length ≤ k := List.length_take_le _ _
      by_cases hin : (l[k].kind == 3) = true ∧ 0 ≤ l[k].code ∧ l[k].code ≤ 10
      · obtain ⟨t1, c1, c2⟩ := hin
        obtain ⟨n, hn⟩ : ∃ n : Nat, l[k].code = n := ⟨l[k].code.toNat, by omega⟩
        have hn10 : n ≤ 10 := by omega
        have hin := Lib.hid (tbl_in l k n hlt hn10 t1 hn)
        have ht0 := hB.cell n
        rw [tbl_get _ _ hn10] at ht0
        have hf0 := hB.frozen n
        have hlen2 := hle n
        have hnn := Lib.hid hn
        have d1 : decide ((0 : Int) ≤ n) = true := by simp
        have d2 : decide ((n : Int) ≤ 10) = true := by simp; omega
        have hn0 : (0 : Int) ≤ n := by omega
        have hn11 : (n : Int) < 11 := by omega
        clear c1 c2 hn hle
        go_wp2_with (first
          | (refine ld 53 (.tmp 10) rfl rfl rfl hr Tryd.underlying53 rfl (by rw [hlen]; kernel_rfl) ?_)
          | (refine stNew 53 (.tmp 5) (.tmp 11) rfl rfl rfl rfl (by simp only [List.size_toArray, hlen]; kernel_rfl) (by simp only [List.size_toArray, hlen] <;> rfl) h1 ?_; intro w2 hblk hb2 hsz2; have hc0 : w2.cell? ⟨wr.heap.size, 0, none⟩ = some (.int .i64 l[k].kind) := cell_blk hblk 0; have hc1 : w2.cell? ⟨wr.heap.size, 1, none⟩ = some (.int .i64 l[k].code) := cell_blk hblk 1; rw [hnn.out] at hc1; have ht2 := (hb2.cell (p := ⟨w.heap.size + 1, n, none⟩) hBlt).trans ht0; have hf2 := (hb2.frozen (p := ⟨w.heap.size + 1, n, none⟩) hBlt).trans hf0; clear hblk))
        have hB2 := (hB.keep hb2).set_ n (.int .i64 ((nCode (l.take k) n : Int) + 1))
        rw [hin.out] at hB2
        refine ⟨⟨k + 1, by omega, by go_num, (bstep hb hb2).setCell (by simp) _, hB2, cs, hcs, (hB0.keep hb2).far (by simp) _⟩, by simp [intOf]; omega⟩
      · have hout : (l[k].kind == 3) = false ∨ l[k].code < 0 ∨ 10 < l[k].code := by
          rcases Bool.eq_false_or_eq_true (l[k].kind == 3) with h | h
          · exact .inr (by have : ¬ (0 ≤ l[k].code ∧ l[k].code ≤ 10) := fun e => hin ⟨h, e⟩
                           omega)
          · exact .inl h
        have hne := Lib.hid (tbl_out l k hlt hout)
        clear hin hle
        rcases hout with h2 | h2 | h2
        rotate_left
        all_goals try rcases Bool.eq_false_or_eq_true (l[k].kind == 3) with t1 | t1
        all_goals try have d1 : decide ((0 : Int) ≤ l[k].code) = false := by simp; omega
        all_goals try have d1 : decide ((0 : Int) ≤ l[k].code) = true := by simp; omega
        all_goals try have d2 : decide (l[k].code ≤ (10 : Int)) = false := by simp; omega
        all_goals
          go_wp2_with (first
            | (refine ld 53 (.tmp 10) rfl rfl rfl hr Tryd.underlying53 rfl (by rw [hlen]; kernel_rfl) ?_)
            | (refine stNew 53 (.tmp 5) (.tmp 11) rfl rfl rfl rfl (by simp only [List.size_toArray, hlen]; kernel_rfl) (by simp only [List.size_toArray, hlen] <;> rfl) h1 ?_; intro w2 hblk hb2 hsz2; have hc0 : w2.cell? ⟨wr.heap.size, 0, none⟩ = some (.int .i64 l[k].kind) := cell_blk hblk 0; have hc1 : w2.cell? ⟨wr.heap.size, 1, none⟩ = some (.int .i64 l[k].code) := cell_blk hblk 1; clear hblk))
          rw [hne.out] at hB
          exact ⟨⟨k + 1, by omega, by go_num, bstep hb hb2, hB.keep hb2, cs, hcs, hB0.keep hb2⟩, by simp [intOf]; omega⟩
    · have : k = l.length := by omega
      subst this
      rw [List.take_length] at hB
      have hrg : wr.rangeAt (w.heap.size + 1) 0 (tbl l) := hB.range
      have hs1 : (tbl l).length = 11 := by simpa using tbl_size l
      have h1 := tbl_one l
      clear hs hok
      go_wp2_with (first
        | (refine ld 26 (.tmp 3) rfl rfl rfl hrg Tryd.underlying26 rfl (by rw [hs1]; kernel_rfl) ?_)
        | (refine stBlk 26 (.tmp 2) (.tmp 32) rfl rfl rfl rfl hB0 (by simp only [List.size_toArray, hs1]; kernel_rfl) (by simp only [List.size_toArray, hs1]; exact hcs) h1 ?_; intro w2 hB2 hb2 _ _))
      refine bodyPost_ret (results_cell_row rfl _ _ w.heap.size 26 _ (0, 0) _ rfl hB2 Tryd.underlying26 rfl (by simp only [List.size_toArray, hs1]; kernel_rfl)) rfl ⟨rfl, ?_⟩
      exact hb.trans hb2
end Go.Proofs.YtdidohfdedkfaaaDoor
