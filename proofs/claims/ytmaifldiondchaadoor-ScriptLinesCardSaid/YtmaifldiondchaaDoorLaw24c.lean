/- The law ScriptLines: its walk. -/
import Derived.Test.YtmaifldiondchaaDoorAwake24
import Derived.Test.YtmaifldiondchaaDoorRPar
import Derived.Test.YtmaifldiondchaaDoorLen24
namespace Go.Proofs.YtmaifldiondchaaDoor
open Go.RowKit
attribute [local irreducible] wpAnyH wpQuiet
set_option linter.unusedSimpArgs false

set_option maxRecDepth 100000 in
set_option maxHeartbeats 8000000 in
theorem linesLaw_any (s : Bs) (w : World) (ht : Tab w) (hml : ML w) (hs : s.length ≤ 9223372036854775807) :
    Calls Tryd.prog 3 #[.string (SB s)] w fun e w' => e = .returned (.bool true) ∧ Below w.heap.size w w' := by
  have HT := Lib.hid ht
  have HML := Lib.hid hml
  clear ht hml
  have hsz : (SB s).size = s.length := SB_size s
  have hzr : ∀ w, (zeroValue 26).run Tryd.prog w = .ok (.agg opZ) w := fun w => by kernel_rfl
  have HZR := Lib.hid hzr
  clear hzr
  rcases Bool.eq_false_or_eq_true (decide ((1000 : Int) < s.length)) with t1 | t1
  · obtain ⟨S, hS⟩ : ∃ S, S = SB s := ⟨_, rfl⟩
    rw [← hS] at hsz ⊢
    clear hS
    go_enter Tryd.func3, Tryd.ntmps3
    go_wp2_with (first
      | (go_at_call 8; refine (awake_any w1 (HT.out.below HB1.out) (HML.out.below HB1.out)).mono ?_; rintro e wz ⟨rfl, hbz⟩; have HBZ := Lib.hid (bstep HB1.out hbz); clear hbz)
      | (go_at_call 8; refine (awake_any w HT.out HML.out).mono ?_; rintro e w1 ⟨rfl, hb1⟩; have HB1 := Lib.hid hb1; clear hb1))
    go_ret
    exact ⟨rfl, HBZ.out⟩
  have hl : s.length ≤ 1000 := by have := of_decide_eq_false t1; omega
  have HPL := Lib.hid (fun (w1 : World) (hb : Below w.heap.size w w1) => ParseLine_any s w1 (HML.out.below hb) (by omega))
  have HRL := Lib.hid (fun (w1 : World) => refParse_any s w1 (by omega))
  obtain ⟨o, ho⟩ : ∃ o, o = (parseL s).getD op0 := ⟨_, rfl⟩
  obtain ⟨b, hb⟩ : ∃ b, b = (parseL s).isSome := ⟨_, rfl⟩
  rw [← ho, ← hb] at HPL HRL
  have HLB : Hid (b = true → lineB o = s) := Lib.hid (fun h => by
    rw [hb, Option.isSome_iff_exists] at h
    obtain ⟨x, hx⟩ := h
    rw [ho, hx]
    exact (line_parse hx).2)
  have hol : o.data.length ≤ 131072 ∧ o.cuts.length ≤ 20 := by
    cases hx : parseL s with
    | none => rw [ho, hx]; simp [op0]
    | some x => rw [ho, hx]; exact parse_len hx
  clear ho hb
  obtain ⟨k, n, d, c⟩ := o
  simp only at hol
  obtain ⟨hdl, hcl⟩ := hol
  obtain ⟨S, hS⟩ : ∃ S, S = SB s := ⟨_, rfl⟩
  rw [← hS] at hsz HPL HRL ⊢
  have HLS : Hid (b = true → SB (lineB ⟨k, n, d, c⟩) = S) := Lib.hid (fun h => by rw [HLB.out h, hS])
  have HSS : Hid ((S.toList == S.toList) = true) := Lib.hid (beq_self_eq_true _)
  clear hS HLB
  go_enter Tryd.func3, Tryd.ntmps3
  go_upto_region 5 with (first
    | (go_at_call 8; refine (awake_any w HT.out HML.out).mono ?_; rintro e w1 ⟨rfl, hb1⟩; have HB1 := Lib.hid hb1; clear hb1)
    | (go_at_call 9; refine (HPL.out _ HB1.out).mono ?_; rintro e w2 ⟨v2, rfl, hv2, hb2⟩; obtain ⟨A, ca, B, cb, rfl, sx, sy, _, _⟩ := hv2; have HSX : Hid (Sn w2 1 (.slice A d.length ca) d.length (Lib.byteCells d)) := Lib.hid sx; have HSY : Hid (Sn w2 1 (.slice B c.length cb) c.length (intC c)) := Lib.hid sy; have HB2 := Lib.hid (bstep HB1.out hb2); clear sx sy hb2)
    | (go_at_call 10; refine (HRL.out _).mono ?_; rintro e w4 ⟨v4, rfl, hv4, hb4⟩; obtain ⟨A', ca', B', cb', rfl, sx, sy, _, _⟩ := hv4; have HSX' : Hid (Sn w4 1 (.slice A' d.length ca') d.length (Lib.byteCells d)) := Lib.hid sx; have HSY' : Hid (Sn w4 1 (.slice B' c.length cb') c.length (intC c)) := Lib.hid sy; have HB34 := Lib.hid hb4; have HB4 := Lib.hid (bstep HB3.out hb4); have HK4 := Lib.hid (HK3.out.keep hb4); clear sx sy hb4)
    | (refine al 26 _ rfl rfl HZR.out ?_)
    | (refine stNew (cells := #[.int .i64 k, .int .i64 n, .slice A' d.length ca', .slice B' c.length cb']) 26 (.tmp 5) (.tmp 23) rfl rfl (by rfl) (by rfl) (by kernel_rfl) (by rfl) (opRow_one _ _ _ _ _ _ _ _) ?_; intro w5 hK hb5 hz5; have HK5' := Lib.hid (show Blk w5 w4.heap.size 26 #[.int .i64 k, .int .i64 n, .slice A' d.length ca', .slice B' c.length cb'] from hK); have HK5 := Lib.hid (HK4.out.keep hb5); have HB45 := Lib.hid hb5; have HB5 := Lib.hid (bstep HB4.out hb5); clear hK hb5 hz5)
    | (refine stNew (cells := #[.int .i64 k, .int .i64 n, .slice A d.length ca, .slice B c.length cb]) 26 (.tmp 3) (.tmp 18) rfl rfl (by rfl) (by rfl) (by kernel_rfl) (by rfl) (opRow_one _ _ _ _ _ _ _ _) ?_; intro w3 hK hb3 hz3; have HK3 := Lib.hid (show Blk w3 w2.heap.size 26 #[.int .i64 k, .int .i64 n, .slice A d.length ca, .slice B c.length cb] from hK); have HB23 := Lib.hid hb3; have HB3 := Lib.hid (bstep HB2.out hb3); clear hK hb3 hz3))
  have HRX5 : Hid (w5.rangeAt w2.heap.size 0 [.int .i64 k, .int .i64 n, .slice A d.length ca, .slice B c.length cb]) := Lib.hid HK5.out.range
  have HRY5 : Hid (w5.rangeAt w4.heap.size 0 [.int .i64 k, .int .i64 n, .slice A' d.length ca', .slice B' c.length cb']) := Lib.hid HK5'.out.range
  have hx5 : Sn w5 1 (.slice A d.length ca) d.length (Lib.byteCells d) := ((HSX.out.below HB23.out).below HB34.out).below HB45.out
  have hy5 : Sn w5 1 (.slice B c.length cb) c.length (intC c) := ((HSY.out.below HB23.out).below HB34.out).below HB45.out
  have HRS := Lib.hid (refSame_any k n k n d d c c A A' B B' ca ca' cb cb' w5 hx5 (HSX'.out.below HB45.out) hy5 (HSY'.out.below HB45.out) (by omega) (by omega))
  have hsame : sameB ⟨k, n, d, c⟩ ⟨k, n, d, c⟩ = true := (sameB_iff _ _).2 rfl
  rw [hsame] at HRS
  clear hsame
  cases b with
  | false =>
    clear hx5 hy5
    go_wp2_with (first
      | (go_at_call 11; refine HRS.out.mono ?_; rintro e w6 ⟨rfl, hb6⟩; have HB6 := Lib.hid (bstep HB5.out hb6); clear hb6)
      | (refine ld (cs := [.int .i64 k, .int .i64 n, .slice A d.length ca, .slice B c.length cb]) 26 (.tmp 3) rfl rfl (by rfl) HRX5.out Tryd.underlying26 rfl (by kernel_rfl) ?_)
      | (refine ld (cs := [.int .i64 k, .int .i64 n, .slice A' d.length ca', .slice B' c.length cb']) 26 (.tmp 5) rfl rfl (by rfl) HRY5.out Tryd.underlying26 rfl (by kernel_rfl) ?_))
    go_ret
    exact ⟨rfl, HB6.out⟩
  | true =>
    have HLN : Hid (∀ w6, Below w5.heap.size w5 w6 → Calls Tryd.prog 12 #[.agg #[.int .i64 k, .int .i64 n, .slice A d.length ca, .slice B c.length cb]] w6 fun e w' => e = .returned (.string S) ∧ Below w6.heap.size w6 w') := Lib.hid (fun w6 hb => by
      have h := line_any k n d c A B ca cb w6 (HT.out.below (bstep HB5.out hb)) (hx5.below hb) (hy5.below hb) (by omega) (by omega)
      rw [HLS.out rfl] at h
      exact h)
    have hss := HSS.out
    clear hx5 hy5
    go_wp2_with (first
      | (have hq := HB56.out; clear hq; go_at_call 12; refine (HLN.out _ HB56.out).mono ?_; rintro e w7 ⟨rfl, hb7⟩; have HB7 := Lib.hid (bstep HB6.out hb7); clear hb7)
      | (go_at_call 11; refine HRS.out.mono ?_; rintro e w6 ⟨rfl, hb6⟩; have HB6 := Lib.hid (bstep HB5.out hb6); have HRX6 : Hid (w6.rangeAt w2.heap.size 0 [.int .i64 k, .int .i64 n, .slice A d.length ca, .slice B c.length cb]) := Lib.hid (HK5.out.keep hb6).range; have HB56 := Lib.hid hb6; clear hb6)
      | (refine ld (cs := [.int .i64 k, .int .i64 n, .slice A d.length ca, .slice B c.length cb]) 26 (.tmp 3) rfl rfl (by rfl) HRX6.out Tryd.underlying26 rfl (by kernel_rfl) ?_)
      | (refine ld (cs := [.int .i64 k, .int .i64 n, .slice A d.length ca, .slice B c.length cb]) 26 (.tmp 3) rfl rfl (by rfl) HRX5.out Tryd.underlying26 rfl (by kernel_rfl) ?_)
      | (refine ld (cs := [.int .i64 k, .int .i64 n, .slice A' d.length ca', .slice B' c.length cb']) 26 (.tmp 5) rfl rfl (by rfl) HRY5.out Tryd.underlying26 rfl (by kernel_rfl) ?_))
    go_ret
    exact ⟨rfl, HB7.out⟩
theorem linesLaw_str (a : ByteArray) (w : World) (ht : Tab w) (hml : ML w) (hs : a.size ≤ maxLen) :
    Calls Tryd.prog 3 #[.string a] w fun e w' => e = .returned (.bool true) ∧ Below w.heap.size w w' := by
  have h := linesLaw_any a.data.toList w ht hml (by unfold maxLen at hs; simpa using hs)
  rw [SB_back] at h
  exact h
end Go.Proofs.YtmaifldiondchaaDoor
