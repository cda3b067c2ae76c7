/- The law TallyMatchesReference: its walk. -/
import Derived.Test.YtdidohfdedkfaaaDoorLaw28b
namespace Go.Proofs.YtdidohfdedkfaaaDoor
open Go.RowKit

theorem repL_bare (l : List RowD) (k : Nat) : repL (l.map bare) k = repL l k := by
  unfold repL
  simp only [(map_bare l).2.2]
theorem repAll_bare (l : List RowD) : repAll (l.map bare) = repAll l := by
  unfold repAll
  rw [repL_bare, (map_bare l).1, (map_bare l).2.1]

/-- '==' of two tallies that are the same. -/
theorem run_cEq (t : TypeId) (m n : Nat) (h3 : m < 2 ^ 53) (h4 : n < 2 ^ 53) (w : World) : (binOp .eql t (cx m n) (cx m n)).run Tryd.prog w = .ok (.bool true) w := by
  unfold cx
  rw [run_eql_complex]
  have e1 : FloatKind.f64.format.order (flw m) (flw m) = some .eq := by
    show Ieee.double.order _ _ = _
    rw [order_flw m m h3 h3, Nat.compare_eq_eq.2 rfl]
  have e2 : FloatKind.f64.format.order (flw n) (flw n) = some .eq := by
    show Ieee.double.order _ _ = _
    rw [order_flw n n h4 h4, Nat.compare_eq_eq.2 rfl]
  rw [e1, e2]; rfl
theorem run_cGuard (t : TypeId) (p q : Operand) (m n : Nat) (w : World) : (eqGuard .eql t p q (cx m n) (cx m n)).run Tryd.prog w = .ok () w := by unfold cx; rfl

set_option maxRecDepth 100000 in
set_option maxHeartbeats 4000000 in
theorem matches_any (va : Value) (l : List RowD) (w : World) (ht : Tab w) (hs : Sn w 36 va l.length (l.flatMap rowC)) (hok : ∀ r ∈ l, RowOk r) :
    Calls Tryd.prog 3 #[va] w fun e w' => e = .returned (.bool true) ∧ Below w.heap.size w w' := by
  obtain ⟨A, cap, rfl, hcap, _, _⟩ := id hs
  have HS := Lib.hid hs
  have HOK := Lib.hid hok
  clear hs hok
  rcases Bool.eq_false_or_eq_true (decide ((100 : Int) < l.length)) with d1 | d1
  · go_enter Tryd.func3, Tryd.ntmps3
    go_wp2_with fail
    refine (awake_any w ht).mono ?_
    rintro e w1 ⟨rfl, hb1⟩
    go_wp2_with fail
    refine (awake_any w1 (ht.below hb1)).mono ?_
    rintro e w2 ⟨rfl, hb2⟩
    go_wp2_with fail
    go_ret
    exact ⟨rfl, bstep hb1 hb2⟩
  · have hl : l.length ≤ 100 := by have := of_decide_eq_false d1; omega
    go_enter Tryd.func3, Tryd.ntmps3
    go_wp2_with fail
    refine (awake_any w ht).mono ?_
    rintro e w1 ⟨rfl, hb1⟩
    go_wp2_with fail
    refine (given_any _ l w1 (HS.out.below hb1) HOK.out (by omega)).mono ?_
    rintro e w2 ⟨v2, rfl, hs2, hb2⟩
    obtain ⟨L, hL⟩ : ∃ L, L = l.map bare := ⟨_, rfl⟩
    have hLl : l.length = L.length := by rw [hL, List.length_map]
    have HOKL : Hid (∀ r ∈ L, RowOk r) := Lib.hid (by rw [hL]; exact map_bare_ok HOK.out)
    have HC : Hid (∀ c, nCode L c = nCode l c) := Lib.hid (by rw [hL]; exact (map_bare l).2.2)
    have HA : Hid (nAcc L = nAcc l) := Lib.hid (by rw [hL]; exact (map_bare l).1)
    have HO : Hid (nOth L = nOth l) := Lib.hid (by rw [hL]; exact (map_bare l).2.1)
    have HR : Hid (repAll L = repAll l) := Lib.hid (by rw [hL]; exact repAll_bare l)
    rw [← hL, hLl] at hs2
    have HLl := Lib.hid hLl
    clear hL hLl
    have hL100 : L.length ≤ 100 := by rw [← HLl.out]; exact hl
    have hsz := tbl_size L
    have h1 := tbl_one L
    go_wp2_with fail
    refine (table_any v2 L w2 hs2 HOKL.out (by omega)).mono ?_
    rintro e w3 ⟨rfl, hb3⟩
    have hs3 := hs2.below hb3
    have hb03 := bstep (bstep hb1 hb2) hb3
    clear hb1 hb2 hb3 hs2
    go_wp2_with (refine stNew 26 (.tmp 4) (.tmp 18) rfl rfl rfl rfl (by rw [hsz]; kernel_rfl) (by rw [hsz]; rfl) h1 ?_; intro w4 hblk hb4 hsz4)
    have hcl := Lib.hid (fun (n : Nat) (hn : n ≤ 10) => (cell_blk hblk n).trans (tbl_get L n hn))
    have hb04 := bstep hb03 hb4
    have hs4 := hs3.below hb4
    have hsl4 := HS.out.below hb04
    clear hblk hsz h1 hsz4 hb4 hb03 hs3
    go_loopw [5] (fun i wr => ∃ k : Nat, k ≤ 11 ∧ i = .int .i64 k ∧ Below w4.heap.size w4 wr) (fun i _ => 11 - (intOf i).toNat)
    case atStart => exact ⟨0, Nat.zero_le _, rfl, Below.refl _ _⟩
    case round =>
      obtain ⟨k, hk, rfl, hbd⟩ := hrel
      have hslr := hsl4.below hbd
      rcases Nat.lt_or_ge k 11 with hlt | hge
      · have hc : wr.cell? ⟨w3.heap.size, k, none⟩ = some (.int .i64 (nCode L k)) := Below.cell' hbd (hcl.out k (by omega))
        rw [HC.out] at hc
        have hk0 : (0 : Int) ≤ k := by omega
        have hk1 : (k : Int) < 11 := by omega
        have HCt : Hid (∀ n, Calls Tryd.prog 10 #[.slice A l.length cap, .int .i64 k] (wr.drewN n) fun e w' => e = .returned (.int .i64 (nCode l k)) ∧ w' = wr.drewN n) :=
          Lib.hid (fun n => (count_any _ l k (wr.drewN n) (hslr.below (bdrewN (Below.refl _ _) _)) HOK.out (by omega)).mono fun _ _ h => ⟨h.1, h.2.symm⟩)
        go_wp2_with fail
        go_quiet ((go_at_call 10; exact Calls.quiet_of_same (HCt.out _)))
        go_wp2_with fail
        exact ⟨⟨k + 1, by omega, by go_num, bdrewN hbd _⟩, by simp [intOf]; omega⟩
      · obtain rfl : k = 11 := by omega
        have hsd := hs4.below hbd
        have bl := nAcc_le l
        go_wp2_with fail
        refine (ref_of_any _ l wr hslr HOK.out (by omega)).mono ?_
        rintro e w5 ⟨rfl, hb5⟩
        have bl1 : nAcc l < 2 ^ 53 := by omega
        have bl2 : nOth l < 2 ^ 53 := by omega
        have Q1 := Lib.hid bl1
        have Q2 := Lib.hid bl2
        clear bl bl1 bl2
        obtain ⟨w6, hw6⟩ : ∃ w6, w6 = w5.alloc (.cells #[.int .i64 (nAcc l), .int .i64 (nOth l)] 30) := ⟨_, rfl⟩
        have hb56 : Below w5.heap.size w5 w6 := by rw [hw6]; exact (by repeat (first | exact Below.refl _ _ | assumption | refine bdrewN ?_ _ | refine Below.setCell ?_ (by first | exact Nat.le_refl _ | assumption | omega | (simp <;> omega)) _ | refine Below.alloc ?_ (by first | exact Nat.le_refl _ | assumption | omega | (simp <;> omega)) _))
        have hB := Blk.new w5 30 #[.int .i64 (nAcc l), .int .i64 (nOth l)]
        rw [← hw6] at hB
        have g0 := hB.cell 0
        have g1 := hB.cell 1
        simp only [List.getElem?_toArray, List.getElem?_cons_zero, List.getElem?_cons_succ] at g0 g1
        have hb46 := bstep hbd (bstep hb5 hb56)
        have hb06 := bstep hb04 hb46
        have ht6 := ht.below hb06
        have hsL6 := hs4.below hb46
        have hsl6 := hsl4.below hb46
        clear hB hb56 hb5 hbd hslr hsd hs4 hsl4 hcl
        have HOf : Hid (∀ wc, Below w6.heap.size w6 wc → Calls Tryd.prog 12 #[v2] wc fun e w' => e = .returned (cx (nAcc l) (nOth l)) ∧ Below wc.heap.size wc w') := Lib.hid (fun wc h => by
          have := of_any v2 L wc (hsL6.below h) HOKL.out (by omega)
          rwa [HA.out, HO.out] at this)
        have HTx : Hid (∀ wc, Below w6.heap.size w6 wc → Calls Tryd.prog 14 #[cx (nAcc l) (nOth l)] wc fun e w' => e = .returned (.string (textOf (nAcc l) (nOth l))) ∧ Below wc.heap.size wc w') := Lib.hid (fun wc h => text_any _ _ wc (ht6.below h) Q1.out Q2.out)
        have HRt : Hid (∀ wc, Calls Tryd.prog 15 #[.agg #[.int .i64 (nAcc l), .int .i64 (nOth l)]] wc fun e w' => e = .returned (.string (textOf (nAcc l) (nOth l))) ∧ Below wc.heap.size wc w') := Lib.hid (fun wc => ref_text_any _ _ wc Q1.out Q2.out)
        have HNu : Hid (∀ wc, Calls Tryd.prog 13 #[.agg #[.int .i64 (nAcc l), .int .i64 (nOth l)]] wc fun e w' => e = .returned (cx (nAcc l) (nOth l)) ∧ Below wc.heap.size wc w') := Lib.hid (fun wc => number_any _ _ wc Q1.out Q2.out)
        have HRp : Hid (∀ wc, Below w6.heap.size w6 wc → Calls Tryd.prog 16 #[v2] wc fun e w' => e = .returned (.string (repAll l)) ∧ Below wc.heap.size wc w') := Lib.hid (fun wc h => by
          have := report_any v2 L wc (ht6.below h) (hsL6.below h) HOKL.out (by omega)
          rwa [HR.out] at this)
        have HRr : Hid (∀ wc, Below w6.heap.size w6 wc → Calls Tryd.prog 17 #[.slice A l.length cap] wc fun e w' => e = .returned (.string (repAll l)) ∧ Below wc.heap.size wc w') := Lib.hid (fun wc h => ref_report_any _ l wc (hsl6.below h) HOK.out (by omega))
        go_wp2_with fail
        rw [← hw6]
        have hE := run_cEq 32 (nAcc l) (nOth l) Q1.out Q2.out
        have hG := fun p q => run_cGuard 32 p q (nAcc l) (nOth l)
        clear hw6 hsL6 hsl6 ht6 hb46 hb04
        go_region_held3 (fun w' => w'.cell? ⟨w5.heap.size, 0, none⟩ = some (.int .i64 (nAcc l)) ∧ w'.cell? ⟨w5.heap.size, 1, none⟩ = some (.int .i64 (nOth l)) ∧ Below w6.heap.size w6 w')
          (first
            | (refine ⟨by assumption, by assumption, (Below.refl _ _).drew⟩)
            | (go_split_ands; exact ⟨Below.cell' (by assumption) (by assumption), Below.cell' (by assumption) (by assumption), bstep (by assumption) (by assumption)⟩)
            | go_keep)
          ((first
            | (go_at_call 12; refine (HOf.out _ (by go_split_ands; assumption)).mono ?_; rintro e wN ⟨rfl, hbN⟩)
            | (go_at_call 13; refine (HNu.out _).mono ?_; rintro e wN ⟨rfl, hbN⟩)
            | (go_at_call 14; refine (HTx.out _ (by go_split_ands; assumption)).mono ?_; rintro e wN ⟨rfl, hbN⟩)
            | (go_at_call 15; refine (HRt.out _).mono ?_; rintro e wN ⟨rfl, hbN⟩)
            | (go_at_call 16; refine (HRp.out _ (by go_split_ands; assumption)).mono ?_; rintro e wN ⟨rfl, hbN⟩)
            | (go_at_call 17; refine (HRr.out _ (by go_split_ands; assumption)).mono ?_; rintro e wN ⟨rfl, hbN⟩)
))
        all_goals
          go_wp2_with fail
          go_ret
          exact ⟨rfl, bstep hb06 (by go_split_ands; assumption)⟩
end Go.Proofs.YtdidohfdedkfaaaDoor
