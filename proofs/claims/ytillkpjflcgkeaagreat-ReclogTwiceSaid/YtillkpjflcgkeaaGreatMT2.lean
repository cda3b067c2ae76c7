import Derived.Test.YtillkpjflcgkeaaGreatMT1
import Derived.Laws.Bits64b
import Derived.OwnWalk
import Derived.Laws.BitsAllLaws
set_option linter.unusedSimpArgs false
set_option maxRecDepth 100000
namespace Go.Proofs.YtillkpjflcgkeaaGreat
open Go.RowKit
attribute [local irreducible] wpQuiet wpAnyH
def beN (l : List Int) : Nat := l.foldl (fun x c => x * 256 + c.toNat) 0
theorem beN_snoc (l : List Int) (k : Nat) (h : k < l.length) : beN (l.take (k + 1)) = beN (l.take k) * 256 + l[k].toNat := by
 unfold beN
 rw [List.take_succ_eq_append_getElem h, List.foldl_append]
 rfl
theorem beN_lt (l : List Int) (hb : Bys l) : beN l < 256 ^ l.length := by
 have key : ∀ k, k ≤ l.length → beN (l.take k) < 256 ^ k := by
  intro k
  induction k with
  | zero => intro _; simp [beN]
  | succ k ih =>
   intro hk
   have hlt : k < l.length := by omega
   rw [beN_snoc l k hlt, Nat.pow_succ]
   have h1 := ih (by omega)
   have h2 := hb l[k] (List.getElem_mem hlt)
   have h3 : beN (l.take k) * 256 + 256 ≤ 256 ^ k * 256 := by
    have := Nat.mul_le_mul_right 256 (show beN (l.take k) + 1 ≤ 256 ^ k from h1)
    rw [Nat.add_mul] at this
    omega
   omega
 have := key l.length (Nat.le_refl _)
 rwa [List.take_length] at this
theorem or_byte (y c j : Nat) (hj : j ≤ 7) (hy : y < 256 ^ j) (hc : c < 256) : bits .or .u64 (IntKind.u64.wrap ((y : Int) * 256)) (c : Int) = ((y * 256 + c : Nat) : Int) := by
 have h7 : (256 : Nat) ^ j ≤ 256 ^ 7 := Nat.pow_le_pow_right (by omega) hj
 have e7 : (256 : Nat) ^ 7 = 72057594037927936 := by decide
 have hw : IntKind.u64.wrap ((y : Int) * 256) = ((y * 256 : Nat) : Int) := by
  rw [IntWalk.u64_in _ (by omega)]
  simp
 rw [hw, bits_or_u64_nat (y * 256) c (by omega) (by omega)]
 have := Nat.two_pow_add_eq_or_of_lt (i := 8) (b := c) (by simpa using hc) y
 rw [show (2 : Nat) ^ 8 = 256 from rfl] at this
 rw [Nat.mul_comm y 256, ← this]
set_option maxHeartbeats 1000000 in
theorem rd_number (r : Nat) (v : Value) (xs : List Int) (bad : Bool) (k : Nat) (w : World) (h : RD w r v xs bad) (hb : Bys xs) (hl : xs.length ≤ 1000000) (hk1 : 1 ≤ k) (hk8 : k ≤ 8) :
    Calls Tryz.prog 97 #[.pointer (some ⟨r, 0, none⟩), .int .i64 k] w fun e w' => Off r w w' ∧
      ((bad = false ∧ k ≤ xs.length ∧ ∃ v', e = .returned (.tuple #[.int .u64 (beN (xs.take k)), .bool true]) ∧ RD w' r v' (xs.drop k) false) ∨
       ((bad = true ∨ xs.length < k) ∧ e = .returned (.tuple #[.int .u64 0, .bool false]) ∧ RD w' r (.slice none 0 0) [] true)) := by
  have HR := Lib.hid h
  clear h
  have hi1 : (1 : Int) ≤ k := by omega
  have hi8 : (k : Int) ≤ 8 := by omega
  go_enter Tryz.func97, Tryz.ntmps97
  go_wp2_with fail
  refine (rd_next r v xs bad k w HR.out hl).mono ?_
  rintro e w1 ⟨ho, ⟨rfl, hkl, x, v', rfl, hsx, hR⟩ | ⟨hbad, rfl, hR⟩⟩
  · obtain ⟨A, cap, rfl, hcap, _, _⟩ := id hsx
    have hbk : Bys (xs.take k) := fun b hb' => hb b (List.mem_of_mem_take hb')
    obtain ⟨l, hL⟩ : ∃ l, l = xs.take k := ⟨_, rfl⟩
    have hll : l.length = k := by rw [hL, List.length_take]; omega
    rw [← hL] at hsx hbk
    have HL := Lib.hid hL
    have HBK := Lib.hid hbk
    have HSX := Lib.hid hsx
    have HO := Lib.hid ho
    have HRR := Lib.hid hR
    have HLL := Lib.hid hll
    clear hL hsx hbk ho hR hkl hll hb
    go_wp2_with fail
    go_loopw [30, 8] (fun i x wr => ∃ j : Nat, j ≤ k ∧ i = .int .i64 j ∧ x = .int .u64 (beN (l.take j)) ∧ wr = w1) (fun i _ _ => k - (intOf i).toNat)
    case atStart => exact ⟨0, Nat.zero_le _, rfl, rfl, rfl⟩
    case round =>
      obtain ⟨j, hj, rfl, rfl, rfl⟩ := hrel
      by_cases hlt : j < k
      · obtain ⟨A', cap', hA, _, hl', hcell⟩ := HSX.out
        injection hA with hA _ _
        subst hA
        obtain ⟨b, off, rfl, hr⟩ := hcell (by omega)
        have hjl : j < l.length := by rw [HLL.out]; exact hlt
        have hc := hr j _ (u8s_get l j hjl)
        have hby := HBK.out l[j] (List.getElem_mem hjl)
        obtain ⟨c, hcc⟩ : ∃ c : Nat, l[j] = c := ⟨l[j].toNat, by omega⟩
        have hsn := beN_snoc l j hjl
        rw [hcc] at hc hsn hby
        have hlt56 : beN (l.take j) < 256 ^ j := by
          have := beN_lt (l.take j) (fun b hb => HBK.out b (List.mem_of_mem_take hb))
          rwa [List.length_take, Nat.min_eq_left (by omega)] at this
        obtain ⟨y, hy⟩ : ∃ y, y = beN (l.take j) := ⟨_, rfl⟩
        rw [← hy] at hsn hlt56
        rw [← hy]
        have HSN := Lib.hid hsn
        have hor : bits .or .u64 (IntKind.u64.wrap ((y : Int) * 256)) (c : Int) = ((y * 256 + c : Nat) : Int) := or_byte y c j (by omega) hlt56 (by omega)
        have hi0 : (0 : Int) ≤ j := by omega
        have hi2 : (j : Int) < k := by omega
        clear hr hcell hsn hy hcc hl'
        go_wp2_with fail
        refine ⟨⟨j + 1, by omega, by go_num, ?_, by trivial⟩, by simp [intOf]; omega⟩
        rw [HSN.out]
        simp
      · obtain rfl : j = k := by omega
        rw [List.take_of_length_le (by rw [HLL.out]; omega)]
        go_wp2_with fail
        go_ret2
        refine ⟨HO.out, .inl ⟨?_, ?_, v', HRR.out⟩⟩
        · have := HLL.out
          rw [HL.out, List.length_take] at this
          omega
        · rw [HL.out]
          rfl
  · have HO := Lib.hid ho
    have HRR := Lib.hid hR
    have HB := Lib.hid hbad
    clear ho hR hbad
    go_wp2_with fail
    go_ret2
    exact ⟨HO.out, .inr ⟨HB.out, rfl, HRR.out⟩⟩
set_option maxHeartbeats 1000000 in
theorem rd_Number (r : Nat) (v : Value) (xs : List Int) (bad : Bool) (k : Nat) (w : World) (h : RD w r v xs bad) (hb : Bys xs) (hl : xs.length ≤ 1000000) (hk1 : 1 ≤ k) (hk8 : k ≤ 8) :
    Calls Tryz.prog 80 #[.pointer (some ⟨r, 0, none⟩), .int .i64 k] w fun e w' => Off r w w' ∧
      ((bad = false ∧ k ≤ xs.length ∧ ∃ v', e = .returned (.int .u64 (beN (xs.take k))) ∧ RD w' r v' (xs.drop k) false) ∨
       ((bad = true ∨ xs.length < k) ∧ e = .returned (.int .u64 0) ∧ RD w' r (.slice none 0 0) [] true)) := by
  go_enter Tryz.func80, Tryz.ntmps80
  have HR := Lib.hid h
  clear h
  go_wp2_with fail
  refine (rd_number r v xs bad k w HR.out hb hl hk1 hk8).mono ?_
  rintro e w1 ⟨ho, ⟨hbad, hkl, v', rfl, hR⟩ | ⟨hbad, rfl, hR⟩⟩
  all_goals
    have HO := Lib.hid ho
    have HRR := Lib.hid hR
    have HBD := Lib.hid hbad
    clear ho hR hbad
    go_wp2_with fail
    go_ret
  · exact ⟨HO.out, .inl ⟨HBD.out, hkl, v', rfl, HRR.out⟩⟩
  · exact ⟨HO.out, .inr ⟨HBD.out, rfl, HRR.out⟩⟩
set_option maxHeartbeats 1000000 in
theorem rd_Take (r : Nat) (v : Value) (xs : List Int) (bad : Bool) (n : Nat) (w : World) (h : RD w r v xs bad) (hl : xs.length ≤ 1000000) (hn : n ≤ 1000000) :
    Calls Tryz.prog 101 #[.pointer (some ⟨r, 0, none⟩), .int .i64 n] w fun e w' => Off r w w' ∧
      ((bad = false ∧ n ≤ xs.length ∧ ∃ x v', e = .returned x ∧ Sn w' 1 x n (u8s (xs.take n)) ∧ RD w' r v' (xs.drop n) false) ∨
       ((bad = true ∨ xs.length < n) ∧ e = .returned (.slice none 0 0) ∧ RD w' r (.slice none 0 0) [] true)) := by
  go_enter Tryz.func101, Tryz.ntmps101
  have HR := Lib.hid h
  have hi1 : (0 : Int) ≤ n := by omega
  have hi8 : (n : Int) ≤ 1000000 := by omega
  clear h
  go_wp2_with fail
  refine (rd_next r v xs bad n w HR.out hl).mono ?_
  rintro e w1 ⟨ho, ⟨rfl, hkl, x, v', rfl, hsx, hR⟩ | ⟨hbad, rfl, hR⟩⟩
  · have HO := Lib.hid ho
    have HRR := Lib.hid hR
    have HSX := Lib.hid hsx
    have HK := Lib.hid hkl
    clear ho hR hsx hkl
    go_wp2_with fail
    refine (clone_bytes x n (u8s (xs.take n)) w1 HSX.out (u8s_mem _) hn).mono ?_
    rintro e w2 ⟨y, rfl, hsy, hb2⟩
    go_wp2_with fail
    go_ret
    exact ⟨HO.out.trans (Off.of_below hb2), .inl ⟨HK.out, y, rfl, hsy, v', ⟨HRR.out.1.keep hb2, HRR.out.2.below hb2⟩⟩⟩
  · have HO := Lib.hid ho
    have HRR := Lib.hid hR
    have HBD := Lib.hid hbad
    clear ho hR hbad
    go_wp2_with fail
    go_ret
    exact ⟨HO.out, .inr ⟨HBD.out, rfl, HRR.out⟩⟩
set_option maxHeartbeats 1000000 in
theorem rd_Done (r : Nat) (v : Value) (xs : List Int) (bad : Bool) (w : World) (h : RD w r v xs bad) :
  Calls Tryz.prog 102 #[.pointer (some ⟨r, 0, none⟩)] w fun e w' => e = .returned (.bool (!bad && decide (xs.length = 0))) ∧ w = w' := by
 obtain ⟨hB, hs⟩ := h
 obtain ⟨A, cap, rfl, hcap, _, _⟩ := id hs
 have h0 := hB.cell 0
 have h1 := hB.cell 1
 simp only [List.getElem?_toArray, List.getElem?_cons_zero, List.getElem?_cons_succ] at h0 h1
 clear hB hs
 rcases Bool.eq_false_or_eq_true bad with rfl | rfl
 ·go_enter Tryz.func102, Tryz.ntmps102
  go_wp2_with fail
  go_ret
  exact ⟨rfl, rfl⟩
 ·go_enter Tryz.func102, Tryz.ntmps102
  go_wp2_with fail
  go_ret
  refine ⟨?_, by trivial⟩
  by_cases hx : xs = []
  ·subst hx; rfl
  ·have : xs.length ≠ 0 := fun e => hx (List.eq_nil_of_length_eq_zero e)
   simp [hx, this]
def beB : Nat → Nat → List Int
 | 0, _ => []
 | m + 1, x => ((x / 256 ^ m % 256 : Nat) : Int) :: beB m x
theorem beB_length : ∀ k x, (beB k x).length = k
 | 0, _ => rfl
 | m + 1, x => by simp [beB, beB_length m x]
theorem beB_bys : ∀ k x, Bys (beB k x)
 | 0, _ => fun b h => by simp [beB] at h
 | m + 1, x => fun b h => by
  simp only [beB, List.mem_cons] at h
  rcases h with rfl | h
  ·omega
  ·exact beB_bys m x b h
def numRow (k m x : Nat) : List Value := List.replicate (k - m) (Value.int .u8 0) ++ u8s (beB m x)
theorem numRow_step (k m x : Nat) (h : m < k) : (numRow k m x).set (k - 1 - m) (Value.int .u8 ((x / 256 ^ m % 256 : Nat) : Int)) = numRow k (m + 1) x := by
 unfold numRow
 rw [show k - m = (k - (m + 1)) + 1 by omega, List.replicate_succ']
 rw [List.append_assoc, List.set_append_right _ _ (by simp; omega)]
 rw [List.length_replicate, show k - 1 - m - (k - (m + 1)) = 0 by omega]
 rfl
theorem madeCells_one (z : Value) (n : Nat) : (madeCells #[z] n).toList = List.replicate n z := by
 rw [List.eq_replicate_iff]
 refine ⟨by simp [madeCells], fun b hb => ?_⟩
 simp only [madeCells, Array.toList_map, Array.toList_range, List.mem_map] at hb
 obtain ⟨i, _, rfl⟩ := hb
 simp [Nat.mod_one]
theorem own_cell1 {w : World} {base e n cap g : Nat} {xs : List Value} (h : w.ownsRow base e 1 (.slice (some ⟨g, 0, none⟩) n cap) n xs) {j : Nat} {u : Value} (hj : xs[j]? = some u) : w.cell? ⟨g, j, none⟩ = some u ∧ w.frozen? ⟨g, j, none⟩ = false := by
 obtain ⟨hl, h | ⟨g', cap', cur, hv, _, hh, _, _, _, htk⟩⟩ := h
 ·cases h.1
 ·injection hv with hv1 _ hv2
  injection hv1 with hv1
  injection hv1 with hv1 _ _
  subst hv1
  have hB : Blk w g e cur := hh
  refine ⟨?_, hB.frozen j⟩
  rw [hB.cell]
  rw [← htk, List.getElem?_take] at hj
  split at hj
  ·simpa using hj
  ·cases hj
set_option maxHeartbeats 1000000 in
theorem wire_number (k x : Nat) (w : World) (hk1 : 1 ≤ k) (hk8 : k ≤ 8) (hx : x < 256 ^ k) :
  Calls Tryz.prog 105 #[.int .i64 k, .int .u64 x] w fun e w' => ∃ v, e = .returned (.tuple #[v, .bool true]) ∧ w'.ownsRow w.heap.size 5 1 v k (u8s (beB k x)) ∧ Below w.heap.size w w' := by
 have hi1 : (1 : Int) ≤ k := by omega
 have hi8 : (k : Int) ≤ 8 := by omega
 have hx8 : x < 18446744073709551616 := by
  have h1 : (256 : Nat) ^ k ≤ 256 ^ 8 := Nat.pow_le_pow_right (by omega) hk8
  have e8 : (256 : Nat) ^ 8 = 18446744073709551616 := by decide
  omega
 obtain ⟨i, hi, hz, hsi, hby⟩ := info_parts (P := Tryz.prog) (e := 5) (z := .int .u8 0) (size := 1) (bytes := 1) (by kernel_rfl)
 have HX := Lib.hid hx
 clear hx
 have hsh : ((x : Int) / 2 ^ (8 * k) != 0) = false := by
  have e1 : (256 : Nat) ^ k = 2 ^ (8 * k) := by rw [Nat.pow_mul]
  have e2 : ((x : Int) / 2 ^ (8 * k)) = ((x / 2 ^ (8 * k) : Nat) : Int) := by simp
  rw [e2, Nat.div_eq_of_lt (by rw [← e1]; exact HX.out)]
  rfl
 have hcells : (madeCells (Value.int .u8 0).cells (k * 1)).toList = numRow k 0 x := by
  show (madeCells #[Value.int .u8 0] (k * 1)).toList = _
  rw [madeCells_one]
  simp [numRow, beB, u8s]
 have HCE := Lib.hid hcells
 clear hcells
 have hcase : k < 8 ∨ k = 8 := by omega
 rcases hcase with hk | hk
 all_goals
  first | (have hki : (k : Int) < 8 := by omega) | (have hki : ¬ (k : Int) < 8 := by omega)
  clear hk
  go_enter Tryz.func105, Tryz.ntmps105
  go_wp2_with (at_make; refine wpList_make_full _ rfl (.tmp 23) (.tmp 23) 74 rfl w.heap.size 5 i (.int .u8 0) 1 Tryz.underlying74 hi hz hsi .i64 .i64 (k : Int) (k : Int) k rfl rfl rfl rfl (by rw [hby]; omega) (by unfold maxLen; omega) (Nat.le_refl _) ?_; intro w2 hown hg)
  rw [HCE.out] at hown
  have hb2 : Below w.heap.size w w2 := (Below.refl _ w).grown hg (Nat.le_refl _) (fun g e => by cases e)
  clear hg hsh
  go_loopw [7, 1] (fun i y wr => ∃ m : Nat, m ≤ k ∧ i = .int .i64 ((k : Int) - 1 - m) ∧ y = .int .u64 (x / 256 ^ m) ∧ wr.ownsRow w.heap.size 5 1 (.slice (some ⟨w.heap.size, 0, none⟩) k k) k (numRow k m x) ∧ Below w.heap.size w wr) (fun i _ _ => (intOf i + 1).toNat)
  case atStart => exact ⟨0, Nat.zero_le _, by simp, by simp, hown, hb2⟩
  case round =>
   obtain ⟨m, hm, rfl, rfl, hownr, hbr⟩ := hrel
   by_cases hlt : m < k
   ·have hst := hownr.stored (k - 1 - m) (.int .u8 ((x / 256 ^ m % 256 : Nat) : Int))
    rw [numRow_step k m x hlt] at hst
    have ec : ((x / 256 ^ m % 256 : Nat) : Int) = (x : Int) / 256 ^ m % 256 := by simp
    rw [ec] at hst
    have hnr : (numRow k m x)[k - 1 - m]? = some (.int .u8 0) := by
     unfold numRow
     rw [List.getElem?_append_left (by simp; omega)]
     rw [List.getElem?_replicate, if_pos (by omega)]
    obtain ⟨hcc, hff⟩ := own_cell1 hownr hnr
    have HST := Lib.hid hst.1
    have HBS : Hid (Below w.heap.size w (wr.setCell ⟨w.heap.size, k - 1 - m, none⟩ (.int .u8 ((x : Int) / 256 ^ m % 256)))) := jz (hbr.grown hst.2 hbr.size (fun g e => by cases e; exact Nat.le_refl _))
    have hi0 : (0 : Int) ≤ (k : Int) - 1 - m := by omega
    have hi2 : (k : Int) - 1 - m < k := by omega
    clear hst ec hnr
    go_wp2_with fail
    refine ⟨⟨m + 1, by omega, by go_num, ?_, HST.out, HBS.out⟩, by simp [intOf]; omega⟩
    have hp : (0 : Int) ≤ 256 ^ m := Int.pow_nonneg (by omega)
    rw [Int.pow_succ, Int.ediv_ediv_of_nonneg hp]
   ·obtain rfl : m = k := by omega
    have hfin : numRow m m x = u8s (beB m x) := by simp [numRow]
    rw [hfin] at hownr
    go_wp2_with fail
    go_ret2
    exact ⟨_, rfl, hownr, hbr⟩
set_option maxHeartbeats 1000000 in
theorem frame_number (k x : Nat) (w : World) (hk1 : 1 ≤ k) (hk8 : k ≤ 8) (hx : x < 256 ^ k) :
  Calls Tryz.prog 86 #[.int .i64 k, .int .u64 x] w fun e w' => ∃ v, e = .returned v ∧ w'.ownsRow w.heap.size 5 1 v k (u8s (beB k x)) ∧ Below w.heap.size w w' := by
 go_enter Tryz.func86, Tryz.ntmps86
 go_wp2_with fail
 refine (wire_number k x w hk1 hk8 hx).mono ?_
 rintro e w1 ⟨v, rfl, hown, hb⟩
 go_wp2_with fail
 go_ret
 exact ⟨_, rfl, hown, hb⟩
structure Parts (w : World) (va : Value) (ps : List (Value × List Int)) : Prop where
 row : Sn w 1 va ps.length (ps.map (·.1))
 part : ∀ p ∈ ps, Sn w 1 p.1 p.2.length (u8s p.2)
theorem Parts.below {w w' : World} {va : Value} {ps : List (Value × List Int)} (h : Parts w va ps) (hb : Below w.heap.size w w') : Parts w' va ps :=
 ⟨h.row.below hb, fun p hp => (h.part p hp).below hb⟩
def total (ps : List (Value × List Int)) : Nat := (ps.map (fun p => p.2.length)).sum
theorem total_snoc (ps : List (Value × List Int)) (k : Nat) (h : k < ps.length) : total (ps.take (k + 1)) = total (ps.take k) + ps[k].2.length := by
 unfold total
 rw [List.take_succ_eq_append_getElem h, List.map_append, List.sum_append]
 simp only [List.map_cons, List.map_nil, List.sum_cons, List.sum_nil, Nat.add_zero]
theorem total_le (ps : List (Value × List Int)) (k : Nat) : total (ps.take k) ≤ total ps := by
 have : total ps = total (ps.take k) + total (ps.drop k) := by
  unfold total
  conv => lhs; rw [← List.take_append_drop k ps]
  rw [List.map_append, List.sum_append]
 omega
def cat (ps : List (Value × List Int)) : List Int := ps.flatMap (·.2)
theorem cat_snoc (ps : List (Value × List Int)) (k : Nat) (h : k < ps.length) : cat (ps.take (k + 1)) = cat (ps.take k) ++ ps[k].2 := by
 unfold cat
 rw [List.take_succ_eq_append_getElem h, List.flatMap_append]
 simp only [List.flatMap_cons, List.flatMap_nil, List.append_nil]
theorem cat_length (ps : List (Value × List Int)) : (cat ps).length = total ps := by
 unfold cat total
 rw [List.length_flatMap]
theorem Parts.at {w : World} {A : Option Addr} {cap : Nat} {ps : List (Value × List Int)} (h : Parts w (.slice A ps.length cap) ps) (k : Nat) (hk : k < ps.length) :
  ∃ b off A' c', A = some ⟨b, off, none⟩ ∧ w.cell? ⟨b, off + k, none⟩ = some (.slice A' ps[k].2.length c') ∧ Sn w 1 (.slice A' ps[k].2.length c') ps[k].2.length (u8s ps[k].2) := by
 obtain ⟨A1, cap1, hv, _, hl, hx⟩ := h.row
 injection hv with hA _ _
 subst hA
 obtain ⟨b, off, rfl, hc⟩ := hx (by omega)
 have hp := h.part ps[k] (List.getElem_mem hk)
 obtain ⟨A', c', e, _, _, _⟩ := id hp
 have := hc k ps[k].1 (by simp [hk])
 rw [e] at this hp
 exact ⟨b, off, A', c', rfl, this, hp⟩
set_option maxHeartbeats 1000000 in
theorem wire_join (va : Value) (ps : List (Value × List Int)) (w : World) (hp : Parts w va ps) (hn : ps.length ≤ 1000) (ht : total ps ≤ 1000000) :
  Calls Tryz.prog 85 #[va] w fun e w' => ∃ v, e = .returned v ∧ w'.ownsRow w.heap.size 5 1 v (total ps) (u8s (cat ps)) ∧ Below w.heap.size w w' := by
 obtain ⟨A, cap, rfl, hcap, _, _⟩ := id hp.row
 have HP := Lib.hid hp
 clear hp
 obtain ⟨i, hi, hz, hsi, hby⟩ := info_parts (P := Tryz.prog) (e := 5) (z := .int .u8 0) (size := 1) (bytes := 1) (by kernel_rfl)
 go_enter Tryz.func85, Tryz.ntmps85
 go_wp2_with fail
 go_loopw [11, 3] (fun i n wr => ∃ k : Nat, k ≤ ps.length ∧ i = .int .i64 k ∧ n = .int .i64 (total (ps.take k)) ∧ wr = w) (fun i _ _ => ps.length - (intOf i).toNat)
 case atStart => exact ⟨0, Nat.zero_le _, rfl, rfl, rfl⟩
 case round =>
  obtain ⟨k, hk, rfl, rfl, hw⟩ := hrel
  rw [hw]
  clear hw
  by_cases hlt : k < ps.length
  ·obtain ⟨b, off, A', c', rfl, hc, _⟩ := HP.out.at k hlt
   have hsn := total_snoc ps k hlt
   have h1 := total_le ps k
   have h2 := total_le ps (k + 1)
   rw [hsn] at h2
   have HSN := Lib.hid hsn
   obtain ⟨m, hm⟩ : ∃ m, m = ps[k].2.length := ⟨_, rfl⟩
   obtain ⟨y, hy⟩ : ∃ y, y = total (ps.take k) := ⟨_, rfl⟩
   rw [← hm] at hc h2 HSN
   rw [← hy] at h1 h2 HSN ⊢
   have hi0 : (0 : Int) ≤ k := by omega
   have hi1 : (k : Int) < ps.length := by omega
   clear hm hy hsn
   go_wp2_with fail
   refine ⟨⟨k + 1, by omega, by go_num, ?_, by trivial⟩, by simp [intOf]; omega⟩
   rw [HSN.out]
   simp
  ·obtain rfl : k = ps.length := by omega
   rw [List.take_length]
   obtain ⟨T, hT⟩ : ∃ T, T = total ps := ⟨_, rfl⟩
   have HT := Lib.hid hT
   rw [← hT] at ht ⊢
   clear hT
   go_wp2_with (at_make; refine wpList_make_own _ rfl (.const (.int .i64 0)) (.tmp 20) 74 rfl w.heap.size 5 i (.int .u8 0) 1 Tryz.underlying74 hi hz hsi .i64 .i64 (T : Int) T rfl rfl rfl (by rw [hby]; omega) (by unfold maxLen; omega) (Nat.le_refl _) ?_; intro w2 hown hg)
   have hb2 : Below w.heap.size w w2 := (Below.refl _ w).grown hg (Nat.le_refl _) (fun g e => by cases e)
   clear hg
   go_loopw [24, 6] (fun i v wr => ∃ k : Nat, k ≤ ps.length ∧ i = .int .i64 k ∧ wr.ownsRow w.heap.size 5 1 v (cat (ps.take k)).length (u8s (cat (ps.take k))) ∧ Below w.heap.size w wr) (fun i _ _ => ps.length - (intOf i).toNat)
   case atStart => exact ⟨0, Nat.zero_le _, rfl, hown, hb2⟩
   case round =>
    obtain ⟨k, hk, rfl, hownr, hbr⟩ := hrel
    by_cases hlt : k < ps.length
    ·obtain ⟨b, off, A', c', rfl, hc, hsx⟩ := (HP.out.below hbr).at k hlt
     have hsn := cat_snoc ps k hlt
     have hcl := cat_length (ps.take (k + 1))
     have h2 := total_le ps (k + 1)
     have HTO := HT.out
     rw [hsn] at hcl
     have HSN := Lib.hid hsn
     obtain ⟨x, hx⟩ : ∃ x, x = ps[k].2 := ⟨_, rfl⟩
     obtain ⟨y, hy⟩ : ∃ y, y = cat (ps.take k) := ⟨_, rfl⟩
     rw [← hx] at hc hsx HSN hcl
     rw [← hy] at hownr HSN hcl
     have HSX := Lib.hid hsx
     have hyl : y.length + x.length ≤ 1000000 := by
      rw [List.length_append] at hcl
      omega
     have hszr := hbr.size
     have hi0 : (0 : Int) ≤ k := by omega
     have hi1 : (k : Int) < ps.length := by omega
     clear hsx hx hy hsn hcl HTO
     go_wp2_with (at_builtin; refine app tByt (.tmp 28) (.tmp 29) rfl rfl rfl hownr rfl HSX.out (u8s_mem x) (by unfold maxLen; omega) (by omega) (by omega) ?_; intro v4 w4 hown4 hg4 _)
     have hb4 : Below w.heap.size w w4 := hbr.grown hg4 (by omega) (fun g hg => (hownr.lt g hg).1)
     refine ⟨⟨k + 1, by omega, by go_num, ?_, hb4⟩, by simp [intOf]; omega⟩
     rw [HSN.out, List.length_append, u8s_append]
     exact hown4
    ·obtain rfl : k = ps.length := by omega
     rw [List.take_length] at hownr
     go_wp2_with fail
     go_ret
     refine ⟨_, rfl, ?_, hbr⟩
     rw [HT.out, ← cat_length]
     exact hownr
end Go.Proofs.YtillkpjflcgkeaaGreat
namespace Go.Proofs.YtillkpjflcgkeaaGreat
open Go.RowKit
def z64 : Array Value := (u8s (List.replicate 64 0)).toArray
def pad (l : List Int) : List Int := l ++ List.replicate (64 - l.length) 0
theorem pad_length (l : List Int) (h : l.length ≤ 64) : (pad l).length = 64 := by simp [pad]; omega
theorem pad_bys {l : List Int} (h : Bys l) : Bys (pad l) := fun b hb => by
 unfold pad at hb
 rcases List.mem_append.1 hb with hb | hb
 ·exact h b hb
 ·have := (List.mem_replicate.1 hb).2; omega
theorem z64_size : z64.size = 64 := by simp [z64, u8s]
theorem put_many (cs : Array Value) (n : Nat) (hc : cs.size = n) (xs : List Value) (off : Nat) (h : off + xs.length ≤ n) (i : Nat) : ((xs.zipIdx off).foldl (fun (cs : Array Value) (x : Value × Nat) => cs.setIfInBounds x.2 x.1) cs)[i]? = if off ≤ i ∧ i < off + xs.length then xs[i - off]? else cs[i]? := by
 rw [set_many, hc]
 by_cases h1 : off ≤ i ∧ i < off + xs.length
 ·rw [if_pos ⟨h1.1, h1.2, by omega⟩, if_pos h1]
 ·rw [if_neg (fun h2 => h1 ⟨h2.1, h2.2.1⟩), if_neg h1]
theorem pad_put (l : List Int) (h : l.length ≤ 64) : ((u8s l).zipIdx 0).foldl (fun (cs : Array Value) (x : Value × Nat) => cs.setIfInBounds x.2 x.1) z64 = (u8s (pad l)).toArray := by
 apply Array.ext_getElem?
 intro i
 rw [put_many z64 64 z64_size (u8s l) 0 (by rw [u8s_length]; omega), u8s_length, show (u8s (pad l)).toArray[i]? = (u8s (pad l))[i]? by simp]
 unfold pad
 rw [u8s_append]
 by_cases h1 : i < l.length
 ·rw [if_pos ⟨Nat.zero_le _, by omega⟩, List.getElem?_append_left (by rw [u8s_length]; exact h1), Nat.sub_zero]
 ·rw [if_neg (by omega), List.getElem?_append_right (by rw [u8s_length]; omega), u8s_length]
  unfold z64
  simp only [u8s, List.map_replicate, List.getElem?_toArray, List.getElem?_replicate]
  by_cases h2 : i < 64
  ·rw [if_pos h2, if_pos (by omega)]
  ·rw [if_neg h2, if_neg (by omega)]
attribute [irreducible] z64 pad
theorem zero64 : ∀ w, (zeroValue 72).run Tryz.prog w = .ok (.agg z64) w := fun w => by unfold z64; kernel_rfl
set_option maxHeartbeats 1000000 in
theorem sector_make (vb : Value) (l : List Int) (w : World) (hs : Sn w 1 vb l.length (u8s l)) (hl : l.length ≤ 64) :
  Calls Tryz.prog 103 #[vb] w fun e w' => e = .returned (.tuple #[.agg (u8s (pad l)).toArray, .bool true]) ∧ Below w.heap.size w w' := by
 obtain ⟨A, cap, rfl, hcap, _, _⟩ := id hs
 have HS := Lib.hid hs
 have hl64 : ¬ (64 : Int) < l.length := by omega
 have hpl := pad_length l hl
 have hup : (u8s (pad l)).length = 64 := by rw [u8s_length, hpl]
 have hu1 := u8s_mem l
 clear hs
 obtain ⟨w1, hw1⟩ : ∃ w1, w1 = (w.alloc (.cells z64 72)).alloc (.cells z64 72) := ⟨_, rfl⟩
 have hB1 : Blk w1 w.heap.size 72 z64 := by rw [hw1]; exact (Blk.new w _ _).alloc _
 have hB2 : Blk w1 (w.heap.size + 1) 72 z64 := by rw [hw1]; exact Blk.newAt _ _ _ _ (by simp)
 have hb1 : Below w.heap.size w w1 := by rw [hw1]; exact (by repeat (first | exact Below.refl _ _ | assumption | refine bdrewN ?_ _ | refine Below.setCell ?_ (by first | exact Nat.le_refl _ | assumption | omega | (simp <;> omega)) _ | refine Below.alloc ?_ (by first | exact Nat.le_refl _ | assumption | omega | (simp <;> omega)) _))
 have hs1 : Sn w1 1 (.slice A l.length cap) l.length (u8s l) := by rw [hw1]; exact (HS.out.alloc _).alloc _
 have hth : w1.there (w.heap.size + 1) 0 l.length := fun j hj => ⟨by
  rw [hB2.cell, Array.getElem?_eq_getElem (by rw [z64_size]; omega)]; rfl, hB2.frozen _⟩
 have hB2' := setCells_blk (u8s l) 0 w1 z64 hB2
 rw [pad_put l hl] at hB2'
 have hB1' : Blk (w1.setCells (w.heap.size + 1) 0 (u8s l)) w.heap.size 72 z64 := (setCells_other (by omega) _ _ _).trans hB1
 have hb2 : Below w.heap.size w (w1.setCells (w.heap.size + 1) 0 (u8s l)) := hb1.trans (setCells_below (by omega) _ _ _).1
 have hr2 := hB2'.range
 rw [List.toList_toArray] at hr2
 have hz : z64.size = (u8s (pad l)).toArray.size := by rw [z64_size]; simp [hup]
 have HB1 := Lib.hid hB1'
 have HB2 := Lib.hid hb2
 have HR2 := Lib.hid hr2
 have HTH := Lib.hid hth
 have HS1 := Lib.hid hs1
 clear hB1 hB2 hb1 hs1 hth hB2' hB1' hb2 hr2
 have h1 := u8s_one (pad l)
 subst hw1
 go_enter Tryz.func103, Tryz.ntmps103
 go_wp2_with (first
  | (refine al 72 z64 rfl rfl zero64 ?_)
  | (refine cp (.tmp 9) (.tmp 10) rfl rfl rfl rfl Tryz.underlying74 (by kernel_rfl) HS1.out hl HTH.out hu1 ?_)
  | (refine ld 72 _ rfl rfl rfl HR2.out Tryz.underlying72 rfl (by rw [hup]; kernel_rfl) ?_)
  | (refine stBlk 72 (.tmp 2) (.tmp 12) rfl rfl rfl rfl HB1.out (by simp only [List.size_toArray, hup]; kernel_rfl) hz h1 ?_; intro w3 hB3 hb3 _ _))
 have hr3 := hB3.range
 rw [List.toList_toArray] at hr3
 refine bodyPost_ret (results_cellR_tmp rfl _ rfl hr3 Tryz.underlying72 rfl (by rw [hup]; kernel_rfl)) rfl ⟨rfl, HB2.out.trans hb3⟩
end Go.Proofs.YtillkpjflcgkeaaGreat
namespace Go.Proofs.YtillkpjflcgkeaaGreat
open Go.RowKit
attribute [local irreducible] wpQuiet wpAnyH
def crc1 (x : Nat) : Nat := if x % 2 = 1 then (x / 2) ^^^ 2197175160 else x / 2
def crc8 (x : Nat) : Nat := crc1 (crc1 (crc1 (crc1 (crc1 (crc1 (crc1 (crc1 x)))))))
theorem crc1_lt {x : Nat} (h : x < 4294967296) : crc1 x < 4294967296 := by
 unfold crc1
 split
 ·exact Nat.xor_lt_two_pow (n := 32) (by omega) (by omega)
 ·omega
theorem crc8_lt {x : Nat} (h : x < 4294967296) : crc8 x < 4294967296 := by
 unfold crc8
 exact crc1_lt (crc1_lt (crc1_lt (crc1_lt (crc1_lt (crc1_lt (crc1_lt (crc1_lt h)))))))
def crcRun (x : Nat) (l : List Int) : Nat := l.foldl (fun x c => crc8 (x ^^^ c.toNat)) x
def crcSum (l : List Int) : Nat := 4294967295 - crcRun 4294967295 l
theorem crcRun_lt (l : List Int) (hb : Bys l) : ∀ x, x < 4294967296 → crcRun x l < 4294967296 := by
 induction l with
 | nil => intro x h; exact h
 | cons c l ih =>
  intro x h
  have hc := hb c (by simp)
  exact ih (fun b h => hb b (by simp [h])) _ (crc8_lt (Nat.xor_lt_two_pow (n := 32) (by omega) (by omega)))
theorem crcRun_append (x : Nat) (a b : List Int) : crcRun x (a ++ b) = crcRun (crcRun x a) b := by
 unfold crcRun
 rw [List.foldl_append]
theorem crcRun_snoc (x : Nat) (l : List Int) (k : Nat) (h : k < l.length) : crcRun x (l.take (k + 1)) = crc8 (crcRun x (l.take k) ^^^ l[k].toNat) := by
 rw [List.take_succ_eq_append_getElem h, crcRun_append]
 rfl
attribute [irreducible] crcRun
theorem xor_ones (y : Nat) (hy : y < 4294967296) : 4294967295 ^^^ y = 4294967295 - y := by
 have h1 := BitVec.toNat_not (x := BitVec.ofNat 32 y)
 have h2 : (BitVec.allOnes 32 ^^^ BitVec.ofNat 32 y).toNat = (~~~ BitVec.ofNat 32 y).toNat := by rw [BitVec.allOnes_xor]
 rw [BitVec.toNat_xor, h1, BitVec.toNat_allOnes, BitVec.toNat_ofNat, Nat.mod_eq_of_lt (by omega)] at h2
 simpa using h2
theorem crc_one (x : Nat) (w : World) (hx : x < 4294967296) :
  Calls Tryz.prog 116 #[.int .u32 x] w fun e w' => e = .returned (.int .u32 (crc1 x)) ∧ w = w' := by
 have h1 : bits .and .u32 (x : Int) 1 = ((x % 2 : Nat) : Int) := by
  have := u32_and_nat x 1 hx (by omega)
  rw [Nat.and_one_is_mod] at this
  exact this
 have h2 : bits .xor .u32 ((x : Int) / 2) 2197175160 = (((x / 2) ^^^ 2197175160 : Nat) : Int) := by
  have := u32_xor_nat (x / 2) 2197175160 (by omega) (by omega)
  simpa using this
 rcases Bool.eq_false_or_eq_true ((x : Int) % 2 == 1) with t1 | t1
 all_goals
  go_enter Tryz.func116, Tryz.ntmps116
  go_wp2_with fail
  go_ret
 ·have e : crc1 x = (x / 2) ^^^ 2197175160 := by unfold crc1; rw [if_pos (by simp at t1; omega)]
  rw [e]
  exact ⟨rfl, rfl⟩
 ·have e : crc1 x = x / 2 := by unfold crc1; rw [if_neg (by simp at t1; omega)]
  rw [e]
  exact ⟨by simp, rfl⟩
def crcIt : Nat → Nat → Nat
 | 0, x => x
 | j + 1, x => crc1 (crcIt j x)
theorem crcIt_lt {x : Nat} (h : x < 4294967296) : ∀ j, crcIt j x < 4294967296
 | 0 => h
 | j + 1 => crc1_lt (crcIt_lt h j)
theorem crc_eight (x : Nat) (w : World) (hx : x < 4294967296) :
  Calls Tryz.prog 114 #[.int .u32 x] w fun e w' => e = .returned (.int .u32 (crc8 x)) ∧ w = w' := by
 have HX := Lib.hid hx
 clear hx
 go_enter Tryz.func114, Tryz.ntmps114
 go_wp2_with fail
 go_loopw [3, 0] (fun i y wr => ∃ j : Nat, j ≤ 8 ∧ i = .int .i64 j ∧ y = .int .u32 (crcIt j x) ∧ wr = w) (fun i _ _ => 8 - (intOf i).toNat)
 case atStart => exact ⟨0, Nat.zero_le _, rfl, rfl, rfl⟩
 case round =>
  obtain ⟨j, hj, rfl, rfl, hw⟩ := hrel
  rw [hw]
  clear hw
  by_cases hlt : j < 8
  ·have hi1 : (j : Int) < 8 := by omega
   go_wp2_with fail
   refine (crc_one (crcIt j x) w (crcIt_lt HX.out j)).mono ?_
   rintro e w1 ⟨rfl, hw1⟩
   subst hw1
   go_wp2_with fail
   exact ⟨⟨j + 1, by omega, by go_num, rfl, by trivial⟩, by simp [intOf]; omega⟩
  ·obtain rfl : j = 8 := by omega
   go_wp2_with fail
   go_ret
   exact ⟨rfl, rfl⟩
set_option maxHeartbeats 1000000 in
theorem crc_add (r x : Nat) (vb : Value) (l : List Int) (w : World) (hc : w.cell? ⟨r, 0, none⟩ = some (.int .u32 x)) (hf : w.frozen? ⟨r, 0, none⟩ = false) (hs : Sn w 1 vb l.length (u8s l)) (hb : Bys l) (hl : l.length < 64) (hx : x < 4294967296) :
  Calls Tryz.prog 111 #[.pointer (some ⟨r, 0, none⟩), vb] w fun e w' => e = .returned (.tuple #[]) ∧ w' = w.setCell ⟨r, 0, none⟩ (.int .u32 (crcRun x l)) := by
 obtain ⟨A, cap, rfl, hcap, _, _⟩ := id hs
 have HS := Lib.hid hs
 have HB := Lib.hid hb
 have HX := Lib.hid hx
 have hl64 : (l.length : Int) < 64 := by omega
 clear hs hb hx
 go_enter Tryz.func111, Tryz.ntmps111
 go_wp2_with fail
 go_loopw [18, 4] (fun i y wr => ∃ j : Nat, j ≤ l.length ∧ i = .int .i64 j ∧ y = .int .u32 (crcRun x (l.take j)) ∧ wr = w) (fun i _ _ => l.length - (intOf i).toNat)
 case atStart => exact ⟨0, Nat.zero_le _, rfl, by simp [crcRun], rfl⟩
 case round =>
  obtain ⟨j, hj, rfl, rfl, hw⟩ := hrel
  rw [hw]
  clear hw
  by_cases hlt : j < l.length
  ·obtain ⟨A', cap', hA, _, _, hcell⟩ := HS.out
   injection hA with hA _ hcp
   subst hA hcp
   obtain ⟨b, off, rfl, hr⟩ := hcell (by omega)
   have hcj := hr j _ (u8s_get l j hlt)
   have hby := HB.out l[j] (List.getElem_mem hlt)
   obtain ⟨c, hcc⟩ : ∃ c : Nat, l[j] = c := ⟨l[j].toNat, by omega⟩
   have hsn := crcRun_snoc x l j hlt
   have hy2 := crcRun_lt (l.take j) (fun b hb => HB.out b (List.mem_of_mem_take hb)) x HX.out
   rw [hcc] at hcj hsn hby
   obtain ⟨y, hy⟩ : ∃ y, y = crcRun x (l.take j) := ⟨_, rfl⟩
   rw [← hy] at hsn hy2 ⊢
   have HSN := Lib.hid hsn
   have hxo := u32_xor_nat y c hy2 (by omega)
   have HZ : Hid (y ^^^ c < 4294967296) := jz (Nat.xor_lt_two_pow (n := 32) (by omega) (by omega))
   have hi0 : (0 : Int) ≤ j := by omega
   have hi1 : (j : Int) < l.length := by omega
   clear hr hcell hsn hy hcc
   go_wp2_with fail
   refine (crc_eight (y ^^^ c) w HZ.out).mono ?_
   rintro e w1 ⟨rfl, hw1⟩
   subst hw1
   go_wp2_with fail
   refine ⟨⟨j + 1, by omega, by go_num, ?_, by trivial⟩, by simp [intOf]; omega⟩
   rw [HSN.out]
   simp
  ·obtain rfl : j = l.length := by omega
   rw [List.take_length]
   obtain ⟨y, hy⟩ : ∃ y, y = crcRun x l := ⟨_, rfl⟩
   rw [← hy]
   have HY := Lib.hid hy
   clear hy
   go_wp2_with fail
   go_end0
   rw [HY.out]
   exact ⟨rfl, rfl⟩
set_option maxHeartbeats 1000000 in
theorem crc_sum (va : Value) (ps : List (Value × List Int)) (w : World) (hp : Parts w va ps) (hn : ps.length ≤ 1000) (hb : ∀ p ∈ ps, Bys p.2) (hl : ∀ p ∈ ps, p.2.length < 64) :
  Calls Tryz.prog 104 #[va] w fun e w' => e = .returned (.int .u32 (crcSum (cat ps))) ∧ Below w.heap.size w w' := by
 obtain ⟨A, cap, rfl, hcap, _, _⟩ := id hp.row
 have HP := Lib.hid hp
 have HB := Lib.hid hb
 have HLE := Lib.hid hl
 clear hp hb hl
 go_enter Tryz.func104, Tryz.ntmps104
 go_wp2_with fail
 go_loopw [10] (fun i wr => ∃ k : Nat, k ≤ ps.length ∧ i = .int .i64 k ∧ wr.cell? ⟨w.heap.size, 0, none⟩ = some (.int .u32 (crcRun 4294967295 (cat (ps.take k)))) ∧ wr.frozen? ⟨w.heap.size, 0, none⟩ = false ∧ Below w.heap.size w wr) (fun i _ => ps.length - (intOf i).toNat)
 case atStart =>
  refine ⟨0, Nat.zero_le _, rfl, ?_, ?_, (by repeat (first | exact Below.refl _ _ | assumption | refine bdrewN ?_ _ | refine Below.setCell ?_ (by first | exact Nat.le_refl _ | assumption | omega | (simp <;> omega)) _ | refine Below.alloc ?_ (by first | exact Nat.le_refl _ | assumption | omega | (simp <;> omega)) _))⟩
  ·have e : crcRun 4294967295 (cat (ps.take 0)) = 4294967295 := by simp [crcRun, cat]
   rw [e]
   exact (Blk.new w 193 #[.int .u32 4294967295]).cell 0
  ·exact (Blk.new w 193 #[.int .u32 4294967295]).frozen 0
 case round =>
  obtain ⟨k, hk, rfl, hcr, hfr, hbr⟩ := hrel
  by_cases hlt : k < ps.length
  ·obtain ⟨b, off, A', c', rfl, hc, hsx⟩ := (HP.out.below hbr).at k hlt
   have hsn := cat_snoc ps k hlt
   have hbx := HB.out ps[k] (List.getElem_mem hlt)
   have hlx := HLE.out ps[k] (List.getElem_mem hlt)
   have hbc : Bys (cat (ps.take k)) := fun b hb => by
    unfold cat at hb
    rw [List.mem_flatMap] at hb
    obtain ⟨p, hp, hb⟩ := hb
    exact HB.out p (List.mem_of_mem_take hp) b hb
   have hlt2 := crcRun_lt _ hbc 4294967295 (by omega)
   have hap : crcRun 4294967295 (cat (ps.take (k + 1))) = crcRun (crcRun 4294967295 (cat (ps.take k))) ps[k].2 := by rw [hsn, crcRun_append]
   obtain ⟨x, hx⟩ : ∃ x, x = ps[k].2 := ⟨_, rfl⟩
   obtain ⟨y, hy⟩ : ∃ y, y = crcRun 4294967295 (cat (ps.take k)) := ⟨_, rfl⟩
   rw [← hx] at hc hsx hap hbx hlx
   rw [← hy] at hap hcr hlt2
   have HAP := Lib.hid hap
   have HSX := Lib.hid hsx
   have HBX := Lib.hid hbx
   have HCR := Lib.hid hcr
   have HLT := Lib.hid hlt2
   have hi0 : (0 : Int) ≤ k := by omega
   have hi1 : (k : Int) < ps.length := by omega
   clear hsx hx hy hsn hap hbx hcr hlt2 hbc
   go_wp2_with fail
   refine (crc_add w.heap.size y _ x wr HCR.out hfr HSX.out HBX.out hlx HLT.out).mono ?_
   rintro e w2 ⟨rfl, hw2⟩
   have hB2 : Below w.heap.size w w2 := by rw [hw2]; exact hbr.setCell (p := ⟨w.heap.size, 0, none⟩) (Nat.le_refl _) _
   have hc2 : w2.cell? ⟨w.heap.size, 0, none⟩ = some (.int .u32 (crcRun y x)) := by rw [hw2]; exact World.cell?_setCell_same _ _ _ HCR.out
   have hf2 : w2.frozen? ⟨w.heap.size, 0, none⟩ = false := by rw [hw2, World.frozen?_setCell]; exact hfr
   clear hw2
   go_wp2_with fail
   refine ⟨⟨k + 1, by omega, by go_num, ?_, hf2, hB2⟩, by simp [intOf]; omega⟩
   rw [HAP.out]
   exact hc2
  ·obtain rfl : k = ps.length := by omega
   rw [List.take_length] at hcr
   have hbc : Bys (cat ps) := fun b hb => by
    unfold cat at hb
    rw [List.mem_flatMap] at hb
    obtain ⟨p, hp, hb⟩ := hb
    exact HB.out p hp b hb
   have hlt2 := crcRun_lt _ hbc 4294967295 (by omega)
   have hsum : crcSum (cat ps) = 4294967295 - crcRun 4294967295 (cat ps) := rfl
   obtain ⟨y, hy⟩ : ∃ y, y = crcRun 4294967295 (cat ps) := ⟨_, rfl⟩
   rw [← hy] at hcr hlt2 hsum
   have HSUM := Lib.hid hsum
   clear hy hsum hbc
   go_wp2_with fail
   go_ret
   rw [HSUM.out]
   refine ⟨?_, hbr⟩
   have e1 : bits .xor .u32 IntKind.u32.max (y : Int) = ((4294967295 - y : Nat) : Int) := by
    rw [← xor_ones y hlt2]
    exact u32_xor_nat 4294967295 y (by omega) hlt2
   show Ending.returned (.int .u32 (bits .xor .u32 IntKind.u32.max (y : Int))) = _
   rw [e1]
end Go.Proofs.YtillkpjflcgkeaaGreat
