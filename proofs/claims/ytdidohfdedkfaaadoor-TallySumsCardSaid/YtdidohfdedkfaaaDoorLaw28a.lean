/- The law TallyParts: its walk and its plain law. -/
import Derived.Test.YtdidohfdedkfaaaDoorAwake28
import Derived.Test.YtdidohfdedkfaaaDoorGiven28
namespace Go.Proofs.YtdidohfdedkfaaaDoor
open Go.RowKit

def tsum (l : List RowD) : Nat → Nat
  | 0 => 0
  | k + 1 => tsum l k + nCode l (k : Nat)
theorem nCode_cons (r : RowD) (l : List RowD) (c : Int) : nCode (r :: l) c = nCode l c + (if r.kind == 3 && r.code == c then 1 else 0) := by
  unfold nCode
  simp only [List.filter_cons]
  split <;> simp
theorem nAcc_cons (r : RowD) (l : List RowD) : nAcc (r :: l) = nAcc l + (if isAcc r then 1 else 0) ∧ nOth (r :: l) = nOth l + (if isVerify r && !isAcc r then 1 else 0) := by
  unfold nAcc nOth
  simp only [List.filter_cons]
  constructor <;> split <;> simp
theorem nAcc_code (l : List RowD) : nAcc l = nCode l 10 := rfl
theorem tsum_cons (r : RowD) (l : List RowD) (k : Nat) : tsum (r :: l) k = tsum l k + (if (r.kind == 3) = true ∧ 0 ≤ r.code ∧ r.code < k then 1 else 0) := by
  induction k with
  | zero => simp only [tsum]; rw [if_neg (by omega)]
  | succ k ih =>
    simp only [tsum, ih, nCode_cons, Bool.and_eq_true, beq_iff_eq]
    repeat' split
    all_goals omega
theorem tsum_all (l : List RowD) (h : ∀ r ∈ l, 0 ≤ r.code ∧ r.code ≤ 10) : tsum l 11 = nAcc l + nOth l := by
  induction l with
  | nil => rfl
  | cons r l ih =>
    have hr := h r (by simp)
    have ih := ih (fun r hr => h r (by simp [hr]))
    obtain ⟨e1, e2⟩ := nAcc_cons r l
    rw [e1, e2, tsum_cons, ih]
    unfold isAcc isVerify
    simp only [Bool.and_eq_true, Bool.not_eq_true', beq_iff_eq, Bool.and_eq_false_iff, beq_eq_false_iff_ne]
    repeat' split
    all_goals omega
theorem tsum_le (l : List RowD) (k : Nat) : tsum l k ≤ k * l.length := by
  induction k with
  | zero => simp [tsum]
  | succ k ih =>
    have := nCode_le l (k : Nat)
    simp only [tsum]
    rw [Nat.add_mul]
    omega
theorem map_bare (l : List RowD) : nAcc (l.map bare) = nAcc l ∧ nOth (l.map bare) = nOth l ∧ ∀ c, nCode (l.map bare) c = nCode l c := by
  induction l with
  | nil => exact ⟨rfl, rfl, fun _ => rfl⟩
  | cons r l ih =>
    obtain ⟨i1, i2, i3⟩ := ih
    simp only [List.map_cons]
    rw [(nAcc_cons _ _).1, (nAcc_cons _ _).2, (nAcc_cons _ _).1, (nAcc_cons _ _).2, i1, i2]
    refine ⟨rfl, rfl, fun c => ?_⟩
    rw [nCode_cons, nCode_cons, i3]
    rfl
theorem map_bare_ok {l : List RowD} (h : ∀ r ∈ l, RowOk r) : ∀ r ∈ l.map bare, RowOk r := by
  intro r hr
  obtain ⟨r', hr', rfl⟩ := List.mem_map.1 hr
  exact bare_ok (h r' hr')

set_option maxRecDepth 100000 in
set_option maxHeartbeats 4000000 in
theorem parts_any (v : Value) (l : List RowD) (w : World) (ht : Tab w) (hs : Sn w 36 v l.length (l.flatMap rowC)) (hok : ∀ r ∈ l, RowOk r) :
    Calls Tryd.prog 6 #[v] w fun e w' => e = .returned (.bool true) ∧ Below w.heap.size w w' := by
  obtain ⟨A, cap, rfl, hcap, _, _⟩ := id hs
  have HS := Lib.hid hs
  have HOK := Lib.hid hok
  clear hs hok
  by_cases hl : l.length ≤ 100
  · have d1 : decide ((100 : Int) < l.length) = false := by simp; omega
    go_enter Tryd.func6, Tryd.ntmps6
    go_wp2_with fail
    refine (awake_any w ht).mono ?_
    rintro e w1 ⟨rfl, hb1⟩
    go_wp2_with fail
    have hs1 := HS.out.below hb1
    go_loop [3] (fun i => ∃ k : Nat, k ≤ l.length ∧ i = .int .i64 k ∧ Hid (∀ r ∈ l.take k, 0 ≤ r.code ∧ r.code ≤ 10)) (fun i => l.length - (intOf i).toNat)
    case atStart => exact ⟨0, Nat.zero_le _, rfl, Lib.hid (by intro r hr; simp at hr)⟩
    case round =>
      obtain ⟨k, hk, rfl, hall⟩ := hrel
      by_cases hlt : k < l.length
      · obtain ⟨b, off, rfl, hr⟩ := at_row hs1 HOK.out k hlt
        have hc1 : w1.cell? ⟨b, off + k * 36 + 1, none⟩ = some (.int .i64 l[k].code) := hr 1 _ rfl
        clear hr
        rcases Bool.eq_false_or_eq_true (decide (l[k].code < (0 : Int))) with t1 | t1
        · go_wp2_with fail
          go_ret
          exact ⟨rfl, hb1⟩
        rcases Bool.eq_false_or_eq_true (decide ((10 : Int) < l[k].code)) with t2 | t2
        · go_wp2_with fail
          go_ret
          exact ⟨rfl, hb1⟩
        have hall2 : Hid (∀ r ∈ l.take (k + 1), 0 ≤ r.code ∧ r.code ≤ 10) := Lib.hid (by
          intro r hr
          rw [List.take_succ_eq_append_getElem hlt] at hr
          rcases List.mem_append.1 hr with h | h
          · exact hall.out r h
          · obtain rfl : r = l[k] := by simpa using h
            have u1 := of_decide_eq_false t1
            have u2 := of_decide_eq_false t2
            omega)
        go_wp2_with fail
        exact ⟨⟨k + 1, by omega, by go_num, hall2⟩, by simp [intOf]; omega⟩
      · obtain rfl : k = l.length := by omega
        rw [List.take_length] at hall
        have hokb := Lib.hid (map_bare_ok HOK.out)
        have hallb : Hid (∀ r ∈ l.map bare, 0 ≤ r.code ∧ r.code ≤ 10) := Lib.hid (by
          intro r hr
          obtain ⟨r', hr', rfl⟩ := List.mem_map.1 hr
          exact hall.out r' hr')
        go_wp2_with fail
        refine (given_any _ l w1 hs1 HOK.out (by omega)).mono ?_
        rintro e w2 ⟨v2, rfl, hs2, hb2⟩
        obtain ⟨L, hL⟩ : ∃ L, L = l.map bare := ⟨_, rfl⟩
        have hLl : L.length = l.length := by rw [hL, List.length_map]
        rw [← hL] at hs2 hokb hallb
        rw [← hLl] at hs2
        have HL := Lib.hid hL
        have hL100 : L.length ≤ 100 := by omega
        clear hL hLl
        have hsz := tbl_size L
        have h1 := tbl_one L
        go_wp2_with fail
        refine (table_any v2 L w2 hs2 hokb.out (by omega)).mono ?_
        rintro e w3 ⟨rfl, hb3⟩
        go_wp2_with (refine stNew 26 (.tmp 4) (.tmp 39) rfl rfl rfl rfl (by rw [hsz]; kernel_rfl) (by rw [hsz]; rfl) h1 ?_; intro w4 hblk hb4 hsz4)
        have hcl := Lib.hid (fun (n : Nat) (hn : n ≤ 10) => (cell_blk hblk n).trans (tbl_get L n hn))
        have hb14 := bstep (bstep hb2 hb3) hb4
        have hs4 := hs1.below hb14
        have hlv := Lib.hid (tsum_all L hallb.out)
        have hL2 := Lib.hid (tsum_le L)
        clear hblk hsz h1 hsz4
        go_loop [5, 6] (fun m i => ∃ k : Nat, k ≤ 11 ∧ i = .int .i64 k ∧ m = .int .i64 (tsum L k)) (fun _ i => 11 - (intOf i).toNat)
        case atStart => exact ⟨0, Nat.zero_le _, rfl, rfl⟩
        case round =>
          obtain ⟨k, hk, rfl, rfl⟩ := hrel
          rcases Nat.lt_or_ge k 11 with hlt | hge
          · have hc := hcl.out k (by omega)
            have hn := nCode_le L (k : Nat)
            have ha := hL2.out k
            have ha2 : k * L.length ≤ 11 * 100 := Nat.mul_le_mul (by omega) hL100
            have hk0 : (0 : Int) ≤ k := by omega
            have hk1 : (k : Int) < 11 := by omega
            have e1 : IntKind.i64.wrap ((tsum L k : Int) + nCode L k) = (tsum L k : Int) + nCode L k := IntWalk.i64_in _ (by omega)
            clear ha ha2
            go_wp2_with fail
            exact ⟨⟨k + 1, by omega, by go_num, by simp [tsum]⟩, by simp [intOf]; omega⟩
          · obtain rfl : k = 11 := by omega
            rw [hlv.out]
            go_wp2_with fail
            refine (given_any _ l w4 hs4 HOK.out (by omega)).mono ?_
            rintro e w5 ⟨v5, rfl, hs5, hb5⟩
            rw [← HL.out] at hs5
            have hLl : l.length = L.length := by rw [HL.out, List.length_map]
            rw [hLl] at hs5
            have HLl := Lib.hid hLl
            clear hLl
            go_wp2_with fail
            refine (of_any v5 L w5 hs5 hokb.out (by omega)).mono ?_
            rintro e w6 ⟨rfl, hb6⟩
            have hle := nAcc_le L
            have hc10 := hcl.out 10 (by omega)
            rw [show nCode L (10 : Nat) = nAcc L from rfl] at hc10
            have hb46 := bstep hb5 hb6
            have hc10' : w6.cell? ⟨w3.heap.size, 10, none⟩ = some (.int .i64 (nAcc L)) := Below.cell' hb46 hc10
            have e1 : IntKind.i64.wrap ((nAcc L : Int) + nOth L) = (nAcc L : Int) + nOth L := IntWalk.i64_in _ (by omega)
            clear hc10
            go_wp2_with fail
            refine (split_any (nAcc L) (nOth L) w6 (by omega) (by omega)).mono ?_
            rintro e w7 ⟨rfl, rfl⟩
            go_wp2_with fail
            go_ret
            exact ⟨rfl, bstep (bstep hb1 hb14) hb46⟩
  · have d1 : decide ((100 : Int) < l.length) = true := by simp; omega
    go_enter Tryd.func6, Tryd.ntmps6
    go_wp2_with fail
    refine (awake_any w ht).mono ?_
    rintro e w1 ⟨rfl, hb1⟩
    go_wp2_with fail
    refine (awake_any w1 (ht.below hb1)).mono ?_
    rintro e w2 ⟨rfl, hb2⟩
    go_wp2_with fail
    go_ret
    exact ⟨rfl, bstep hb1 hb2⟩
end Go.Proofs.YtdidohfdedkfaaaDoor
