/- tolllaw24.awake. -/
import Derived.Test.YtmaifldiondchaaDoorParse24
namespace Go.Proofs.YtmaifldiondchaaDoor
open Go.RowKit
set_option linter.unusedSimpArgs false

theorem calls_at {P : Program} {f : FuncId} {args : Array Value} {Q : Ending → World → Prop} (w' : World) (h : ∀ w1, w1 = w' → Calls P f args w1 Q) : Calls P f args w' Q := h _ rfl
def L1 : Bs := [99, 114, 97, 115, 104, 32, 51, 32, 54, 52, 32, 48]
def L2 : Bs := [99, 114, 97, 115, 104, 32, 48, 51]
def L3 : Bs := [35, 32, 120, 10, 10, 116, 105, 99, 107, 32, 53, 10]
def o1 : OpD := ⟨6, 3, [], [64, 0]⟩
theorem p1 : parseL L1 = some o1 := by kernel_rfl
theorem p2 : parseL L2 = none := by kernel_rfl
theorem p3 : parseT L3 = (0, [⟨1, 5, [], []⟩]) := by kernel_rfl
theorem l1 : lineB o1 = L1 := (line_parse p1).2
def q1 : OpD := ⟨3, 0, [0, 255], []⟩
def q2 : OpD := ⟨2, 0, [], []⟩
theorem pr1 : printR [q1, q2] = ([118, 101, 114, 105, 102, 121, 32, 48, 48, 102, 102, 10, 98, 111, 111, 116, 10], true) := by kernel_rfl
theorem right0 : rightB op0 = false := by kernel_rfl

set_option maxRecDepth 100000 in
set_option maxHeartbeats 4000000 in
theorem awake_any (w : World) (ht : Tab w) (hml : ML w) :
    Calls Tryd.prog 8 #[] w fun e w' => e = .returned (.bool true) ∧ Below w.heap.size w w' := by
  have HT := Lib.hid ht
  have HML := Lib.hid hml
  clear ht hml
  have hzr : ∀ w, (zeroValue 26).run Tryd.prog w = .ok (.agg opZ) w := fun w => by kernel_rfl
  have HZR := Lib.hid hzr
  clear hzr
  have HP1 := Lib.hid (ParseLine_any L1 w HML.out (by decide))
  rw [p1] at HP1
  go_enter Tryd.func8, Tryd.ntmps8
  go_wp2_with (first
    | (go_at_call 9; refine HP1.out.mono ?_; clear HP1; rintro e w1 ⟨v1, rfl, hv1, hb1⟩; obtain ⟨A1, c1, B1, d1, rfl, s1, s1', _, _⟩ := hv1; have HS1 : Hid (Sn w1 1 (.slice A1 0 c1) 0 (Lib.byteCells [])) := Lib.hid s1; have HS1' : Hid (Sn w1 1 (.slice B1 2 d1) 2 (intC [64, 0])) := Lib.hid s1'; have HB1 := Lib.hid hb1; clear s1 s1' hb1)
    | (refine al 26 _ rfl rfl HZR.out ?_)
    | (refine stNew (cells := #[.int .i64 6, .int .i64 3, .slice A1 0 c1, .slice B1 2 d1]) 26 (.tmp 1) (.tmp 11) rfl rfl (by rfl) (by rfl) (by kernel_rfl) (by rfl) (opRow_one _ _ _ _ _ _ _ _) ?_; intro w2 hK hb2 hz2; have HK := Lib.hid (show Blk w2 w1.heap.size 26 #[.int .i64 6, .int .i64 3, .slice A1 0 c1, .slice B1 2 d1] from hK); have HB2 := Lib.hid hb2; clear hK hb2 hz2))
  have HBW2 := Lib.hid (bstep HB1.out HB2.out)
  have hp2 := ParseLine_any L2 w2 (HML.out.below HBW2.out) (by decide)
  rw [p2] at hp2
  have HP2 := Lib.hid hp2
  clear hp2
  go_wp2_with (first
    | (go_at_call 9; refine HP2.out.mono ?_; clear HP2; rintro e w3 ⟨v3, rfl, hv3, hb3⟩; obtain ⟨A3, c3, B3, d3, rfl, _, _, _, _⟩ := hv3; have HB3 := Lib.hid hb3; clear hb3)
    | (refine al 26 _ rfl rfl HZR.out ?_)
    | (refine stNew (cells := #[.int .i64 0, .int .i64 0, .slice A3 0 c3, .slice B3 0 d3]) 26 (.tmp 3) (.tmp 15) rfl rfl (by rfl) (by rfl) (by kernel_rfl) (by rfl) (opRow_one _ _ _ _ _ _ _ _) ?_; intro w4 hK4 hb4 hz4; have HB4 := Lib.hid hb4; clear hK4 hb4 hz4))
  refine calls_at _ (fun w5 hw5 => ?_)
  have hsA : Sn w5 1 (.slice (some ⟨w4.heap.size, 0, none⟩) 2 2) 2 (Lib.byteCells [0, 255]) := by
    rw [hw5]
    exact (Sn.new w4 (Lib.byteCells [0, 255]).toArray 5 1 2 rfl).alloc _
  have hsB : Sn w5 4 (.slice (some ⟨w4.heap.size + 1, 0, none⟩) 2 2) 2 ([OpR.mk q1 (some ⟨w4.heap.size, 0, none⟩) 2 none 0, OpR.mk q2 none 0 none 0].flatMap opC) := by
    rw [hw5]
    exact Sn.newAt (w4.alloc (.cells (Lib.byteCells [0, 255]).toArray 5)) ([OpR.mk q1 (some ⟨w4.heap.size, 0, none⟩) 2 none 0, OpR.mk q2 none 0 none 0].flatMap opC).toArray 26 4 2 (w4.heap.size + 1) rfl (by simp)
  have hb45 : Below w4.heap.size w4 w5 := by rw [hw5]; exact bstep (bel1 _ _) (bel1 _ _)
  have HB25 := Lib.hid (bstep (bstep HB3.out HB4.out) hb45)
  have HBW5 := Lib.hid (bstep HBW2.out HB25.out)
  clear hw5 hb45
  have hpr := print_any [OpR.mk q1 (some ⟨w4.heap.size, 0, none⟩) 2 none 0, OpR.mk q2 none 0 none 0] (some ⟨w4.heap.size + 1, 0, none⟩) 2 w5 (HT.out.below HBW5.out) hsB
    (fun x hx => by
      simp only [List.mem_cons, List.not_mem_nil, or_false] at hx
      rcases hx with rfl | rfl
      · exact ⟨hsA, Sn.nil1 _ _⟩
      · exact ⟨Sn.nil1 _ _, Sn.nil1 _ _⟩)
    (fun x hx => by
      simp only [List.mem_cons, List.not_mem_nil, or_false] at hx
      rcases hx with rfl | rfl <;> exact ⟨of_decide_eq_true rfl, of_decide_eq_true rfl⟩) (of_decide_eq_true rfl)
    (fun k => by
      match k with
      | 0 => exact of_decide_eq_true (by kernel_rfl)
      | 1 => exact of_decide_eq_true (by kernel_rfl)
      | k + 2 =>
        rw [List.take_of_length_le (by simp)]
        exact of_decide_eq_true (by kernel_rfl))
    (fun x hx => by
      simp only [List.mem_cons, List.not_mem_nil, or_false] at hx
      rcases hx with rfl | rfl <;> exact of_decide_eq_true (by kernel_rfl))
  rw [show opsOf [OpR.mk q1 (some ⟨w4.heap.size, 0, none⟩) 2 none 0, OpR.mk q2 none 0 none 0] = [q1, q2] from rfl, pr1] at hpr
  have hpr2 : Calls Tryd.prog 16 #[.slice (some ⟨w4.heap.size + 1, 0, none⟩) 2 2] w5 fun e w' => e = .returned (.tuple #[.string ⟨#[118, 101, 114, 105, 102, 121, 32, 48, 48, 102, 102, 10, 98, 111, 111, 116, 10]⟩, .bool true]) ∧ Below w5.heap.size w5 w' := hpr
  refine hpr2.mono ?_
  clear hpr hpr2 hsA hsB
  rintro e w6 ⟨rfl, hb6⟩
  have HB26 := Lib.hid (bstep HB25.out hb6)
  have HBW6 := Lib.hid (bstep HBW2.out HB26.out)
  have hp3 := Parse_any L3 w6 (HML.out.below HBW6.out) (by decide)
  rw [p3] at hp3
  have HP3 := Lib.hid hp3
  clear hp3 hb6
  go_wp2_with fail
  refine HP3.out.mono ?_
  clear HP3
  rintro e w7 ⟨hb7, v7, ev, rfl, hres⟩
  rcases hres with ⟨_, rfl, R, hR, hown, hops⟩ | ⟨h1, _⟩
  rotate_left 1
  · exact absurd h1 (by decide)
  have hRl : R.length = 1 := by
    have := congrArg List.length hR
    simpa [opsOf] using this
  rw [hRl] at hown
  obtain ⟨A7, c7, rfl, _⟩ := own_sn hown
  have HB27 := Lib.hid (bstep HB26.out hb7)
  have HBW7 := Lib.hid (bstep HBW2.out HB27.out)
  have HK7 := Lib.hid (HK.out.keep HB27.out)
  have HR7 : Hid (w7.rangeAt w1.heap.size 0 [.int .i64 6, .int .i64 3, .slice A1 0 c1, .slice B1 2 d1]) := Lib.hid HK7.out.range
  have hl := line_any 6 3 [] [64, 0] A1 B1 c1 d1 w7 (HT.out.below HBW7.out) (HS1.out.below (bstep HB2.out HB27.out)) (HS1'.out.below (bstep HB2.out HB27.out)) (by decide) (by decide)
  rw [show lineB ⟨6, 3, [], [64, 0]⟩ = L1 from l1] at hl
  have HL : Hid (Calls Tryd.prog 12 #[.agg #[.int .i64 6, .int .i64 3, .slice A1 0 c1, .slice B1 2 d1]] w7 fun e w' => e = .returned (.string ⟨#[99, 114, 97, 115, 104, 32, 51, 32, 54, 52, 32, 48]⟩) ∧ Below w7.heap.size w7 w') := Lib.hid hl
  clear hR hown hops hRl hb7 hl
  go_wp2_with (first
    | (refine ld 26 (.tmp 1) rfl rfl (by rfl) HR7.out Tryd.underlying26 rfl (by kernel_rfl) ?_)
    | (go_at_call 12; refine HL.out.mono ?_; rintro e w8 ⟨rfl, hb8⟩; have HB8 := Lib.hid (bstep HBW7.out hb8); have hk0 := (HK7.out.keep hb8).cell 0; have hk1 := (HK7.out.keep hb8).cell 1; have hk3 := (HK7.out.keep hb8).cell 3; simp only [List.getElem?_toArray, List.getElem?_cons_zero, List.getElem?_cons_succ] at hk0 hk1 hk3; clear hb8)
    | (go_at_call 18; refine (right_any 0 0 [] [] none none 0 0 w8 (Sn.nil1 _ _) (by decide) (by decide)).mono ?_; rw [show rightB ⟨0, 0, [], []⟩ = false from right0]; rintro e w9 ⟨rfl, hb9⟩; have HB9 := Lib.hid (bstep HB8.out hb9); clear hb9))
  go_ret
  exact ⟨rfl, HB9.out⟩
end Go.Proofs.YtmaifldiondchaaDoor
