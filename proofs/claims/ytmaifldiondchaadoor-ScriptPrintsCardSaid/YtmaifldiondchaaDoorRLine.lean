/- The reference's Line. -/
import Derived.Test.YtmaifldiondchaaDoorScrG
import Derived.Test.YtmaifldiondchaaDoorScrF
import Derived.Test.YtmaifldiondchaaDoorLine
import Derived.Test.YtmaifldiondchaaDoorDecimal
import Derived.Deep.RegionHeld3
namespace Go.Proofs.YtmaifldiondchaaDoor
open Go.RowKit
set_option linter.unusedSimpArgs false

/-- The state of the walk: the operation's box stands. -/
structure RL (w : World) (box : Array Value) (wr : World) : Prop where
  bel : Below w.heap.size w wr
  box : Blk wr w.heap.size 26 box
theorem RL.below {w : World} {box : Array Value} {wr w' : World} (h : RL w box wr) (hb : Below wr.heap.size wr w') : RL w box w' := ⟨bstep h.bel hb, h.box.keep hb⟩
theorem RL.alloc {w : World} {box : Array Value} {wr : World} (h : RL w box wr) (o : Obj) : RL w box (wr.alloc o) := h.below (bel1 _ _)
theorem RL.drewN {w : World} {box : Array Value} {wr : World} (h : RL w box wr) (n : Nat) : RL w box (wr.drewN n) := ⟨bdrewN h.bel n, h.box.drewN n⟩
theorem SB_app (x y : Bs) : SB x ++ SB y = SB (x ++ y) := mk_append x y
theorem itoaS_SB (n : Int) : itoaS n = SB (Lib.itoa n) := rfl
theorem lineL_data {k n : Int} {d : Bs} (h : d.isEmpty = false) : lineL ⟨k, n, d, []⟩ = wordL k ++ (if numbered k then 32 :: Lib.itoa n else []) ++ 32 :: hexL d := by
  unfold lineL
  simp only [h]
  simp [cutsL]

set_option maxRecDepth 100000 in
set_option maxHeartbeats 8000000 in
theorem rline1 (u : Nat) (A B : Option Addr) (ca cb : Nat) (w : World) (hr : rightB ⟨1, u, [], []⟩ = true) (hu : u ≤ 1099511627776)
    (hR : ∀ w1, Below w.heap.size w w1 → Calls Tryd.prog 14 #[.agg #[.int .i64 1, .int .i64 u, .slice A 0 ca, .slice B 0 cb]] w1 fun e w' => e = .returned (.bool true) ∧ Below w1.heap.size w1 w') :
    Calls Tryd.prog 15 #[.agg #[.int .i64 1, .int .i64 u, .slice A 0 ca, .slice B 0 cb]] w fun e w' => e = .returned (.string (SB (lineB ⟨1, u, [], []⟩))) ∧ Below w.heap.size w w' := by
  have HR := Lib.hid hR
  clear hR
  have HL : Hid (lineB ⟨1, u, [], []⟩ = lineL ⟨1, u, [], []⟩) := Lib.hid (by unfold lineB; rw [if_pos hr])
  clear hr
  have hzu := itoaS_size (u : Int) (by omega) (by omega)
  have HDEC := Lib.hid (fun w1 => dec_any (u : Int) w1 (by omega) (by omega))
  go_enter Tryd.func15, Tryd.ntmps15
  go_wp2_with (first | (have hq := HI.out; clear hq; go_at_call 31; refine (HDEC.out _).mono ?_; rintro e w2 ⟨rfl, d2, hw2⟩; rw [hw2]; clear hw2) | (go_at_call 14; refine (HR.out _ (bel1 _ _)).mono ?_; rintro e w1 ⟨rfl, hb⟩; have HI := Lib.hid ((⟨bstep (bel1 _ _) hb, (Blk.new _ _ _).keep hb⟩ : RL w #[.int .i64 1, .int .i64 u, .slice A 0 ca, .slice B 0 cb] w1).alloc (.cells #[.string ⟨#[116, 105, 99, 107]⟩, .string ⟨#[98, 111, 111, 116]⟩, .string ⟨#[118, 101, 114, 105, 102, 121]⟩, .string ⟨#[99, 111, 109, 112, 97, 99, 116]⟩, .string ⟨#[102, 97, 105, 108]⟩, .string ⟨#[99, 114, 97, 115, 104]⟩] 9)); clear hb; have b0 := HI.out.box.cell 0; have b1 := HI.out.box.cell 1; have b2 := HI.out.box.cell 2; have b3 := HI.out.box.cell 3; simp only [List.getElem?_toArray, List.getElem?_cons_zero, List.getElem?_cons_succ] at b0 b1 b2 b3))
  all_goals
    have HI2 := Lib.hid (HI.out.drewN d2)
    clear HI b0 b1 b2 b3
    go_loopw [3, 4] (fun s i wr => s = .string (⟨#[116, 105, 99, 107, 32]⟩ ++ itoaS u) ∧ i = .int .i64 0 ∧ Hid (RL w #[.int .i64 1, .int .i64 u, .slice A 0 ca, .slice B 0 cb] wr)) (fun _ _ _ => 0)
    case atStart => exact ⟨rfl, rfl, HI2⟩
    case round =>
      obtain ⟨rfl, rfl, HO⟩ := hrel
      clear HI2
      have b3 := HO.out.box.cell 3
      simp only [List.getElem?_toArray, List.getElem?_cons_zero, List.getElem?_cons_succ] at b3
      go_wp2_with fail
      go_ret
      exact ⟨by rw [HL.out, itoaS_SB]; show Ending.returned (.string (SB [116, 105, 99, 107, 32] ++ SB (Lib.itoa u))) = _; rw [SB_app]; simp [lineL, numbered, wordL, cutsL], HO.out.bel⟩

set_option maxRecDepth 100000 in
set_option maxHeartbeats 8000000 in
theorem rline2 (A B : Option Addr) (ca cb : Nat) (w : World) (hr : rightB ⟨2, 0, [], []⟩ = true)
    (hR : ∀ w1, Below w.heap.size w w1 → Calls Tryd.prog 14 #[.agg #[.int .i64 2, .int .i64 0, .slice A 0 ca, .slice B 0 cb]] w1 fun e w' => e = .returned (.bool true) ∧ Below w1.heap.size w1 w') :
    Calls Tryd.prog 15 #[.agg #[.int .i64 2, .int .i64 0, .slice A 0 ca, .slice B 0 cb]] w fun e w' => e = .returned (.string (SB (lineB ⟨2, 0, [], []⟩))) ∧ Below w.heap.size w w' := by
  have HR := Lib.hid hR
  clear hR
  have HL : Hid (lineB ⟨2, 0, [], []⟩ = lineL ⟨2, 0, [], []⟩) := Lib.hid (by unfold lineB; rw [if_pos hr])
  clear hr
  go_enter Tryd.func15, Tryd.ntmps15
  go_wp2_with (go_at_call 14; refine (HR.out _ (bel1 _ _)).mono ?_; rintro e w1 ⟨rfl, hb⟩; have HI := Lib.hid ((⟨bstep (bel1 _ _) hb, (Blk.new _ _ _).keep hb⟩ : RL w #[.int .i64 2, .int .i64 0, .slice A 0 ca, .slice B 0 cb] w1).alloc (.cells #[.string ⟨#[116, 105, 99, 107]⟩, .string ⟨#[98, 111, 111, 116]⟩, .string ⟨#[118, 101, 114, 105, 102, 121]⟩, .string ⟨#[99, 111, 109, 112, 97, 99, 116]⟩, .string ⟨#[102, 97, 105, 108]⟩, .string ⟨#[99, 114, 97, 115, 104]⟩] 9)); clear hb; have b0 := HI.out.box.cell 0; have b1 := HI.out.box.cell 1; have b2 := HI.out.box.cell 2; have b3 := HI.out.box.cell 3; simp only [List.getElem?_toArray, List.getElem?_cons_zero, List.getElem?_cons_succ] at b0 b1 b2 b3)
  go_loopw [3, 4] (fun s i wr => s = .string (SB (wordL 2)) ∧ i = .int .i64 0 ∧ Hid (RL w #[.int .i64 2, .int .i64 0, .slice A 0 ca, .slice B 0 cb] wr)) (fun _ _ _ => 0)
  case atStart => exact ⟨rfl, rfl, HI⟩
  case round =>
    obtain ⟨rfl, rfl, HO⟩ := hrel
    clear HI b0 b1 b2 b3
    have b3 := HO.out.box.cell 3
    simp only [List.getElem?_toArray, List.getElem?_cons_zero, List.getElem?_cons_succ] at b3
    go_wp2_with fail
    go_ret
    exact ⟨by rw [HL.out]; rfl, HO.out.bel⟩

set_option maxRecDepth 100000 in
set_option maxHeartbeats 8000000 in
theorem rline3 (d : Bs) (A B : Option Addr) (ca cb : Nat) (w : World) (hr : rightB ⟨3, 0, d, []⟩ = true) (hd : Sn w 1 (.slice A d.length ca) d.length (Lib.byteCells d)) (hdl : d.length ≤ 1000000)
    (hR : ∀ w1, Below w.heap.size w w1 → Calls Tryd.prog 14 #[.agg #[.int .i64 3, .int .i64 0, .slice A d.length ca, .slice B 0 cb]] w1 fun e w' => e = .returned (.bool true) ∧ Below w1.heap.size w1 w') :
    Calls Tryd.prog 15 #[.agg #[.int .i64 3, .int .i64 0, .slice A d.length ca, .slice B 0 cb]] w fun e w' => e = .returned (.string (SB (lineB ⟨3, 0, d, []⟩))) ∧ Below w.heap.size w w' := by
  have HR := Lib.hid hR
  clear hR
  have HL : Hid (lineB ⟨3, 0, d, []⟩ = lineL ⟨3, 0, d, []⟩) := Lib.hid (by unfold lineB; rw [if_pos hr])
  have HD := Lib.hid hd
  clear hd
  clear hr
  have hzd : (SB (hexL d)).size = 2 * d.length := by rw [SB_size, hexL_length]
  rcases Bool.eq_false_or_eq_true d.isEmpty with hde | hde
  · rw [List.isEmpty_iff] at hde
    subst hde
    simp only [List.length_nil] at HR ⊢
    go_enter Tryd.func15, Tryd.ntmps15
    go_wp2_with (go_at_call 14; refine (HR.out _ (bel1 _ _)).mono ?_; rintro e w1 ⟨rfl, hb⟩; have HI := Lib.hid ((⟨bstep (bel1 _ _) hb, (Blk.new _ _ _).keep hb⟩ : RL w #[.int .i64 3, .int .i64 0, .slice A 0 ca, .slice B 0 cb] w1).alloc (.cells #[.string ⟨#[116, 105, 99, 107]⟩, .string ⟨#[98, 111, 111, 116]⟩, .string ⟨#[118, 101, 114, 105, 102, 121]⟩, .string ⟨#[99, 111, 109, 112, 97, 99, 116]⟩, .string ⟨#[102, 97, 105, 108]⟩, .string ⟨#[99, 114, 97, 115, 104]⟩] 9)); clear hb; have b0 := HI.out.box.cell 0; have b1 := HI.out.box.cell 1; have b2 := HI.out.box.cell 2; have b3 := HI.out.box.cell 3; simp only [List.getElem?_toArray, List.getElem?_cons_zero, List.getElem?_cons_succ] at b0 b1 b2 b3)
    go_loopw [3, 4] (fun s i wr => s = .string (SB (wordL 3)) ∧ i = .int .i64 0 ∧ Hid (RL w #[.int .i64 3, .int .i64 0, .slice A 0 ca, .slice B 0 cb] wr)) (fun _ _ _ => 0)
    case atStart => exact ⟨rfl, rfl, HI⟩
    case round =>
      obtain ⟨rfl, rfl, HO⟩ := hrel
      clear HI b0 b1 b2 b3
      have b3 := HO.out.box.cell 3
      simp only [List.getElem?_toArray, List.getElem?_cons_zero, List.getElem?_cons_succ] at b3
      go_wp2_with fail
      go_ret
      exact ⟨by rw [HL.out]; rfl, HO.out.bel⟩
  · have HLD := Lib.hid (lineL_data (k := 3) (n := 0) hde)
    have hgt := of_decide_eq_true (len_gt hde).2
    clear hde
    go_enter Tryd.func15, Tryd.ntmps15
    go_wp2_with (first | (have hq := HI.out; clear hq; go_at_call 32; refine (hex_any d A ca _ (HD.out.below HI.out.bel) hdl).mono ?_; rintro e w2 ⟨rfl, hb2⟩; have HI2 := Lib.hid (HI.out.below hb2); clear hb2; have b3 := HI2.out.box.cell 3; simp only [List.getElem?_toArray, List.getElem?_cons_zero, List.getElem?_cons_succ] at b3) | (go_at_call 14; refine (HR.out _ (bel1 _ _)).mono ?_; rintro e w1 ⟨rfl, hb⟩; have HI := Lib.hid ((⟨bstep (bel1 _ _) hb, (Blk.new _ _ _).keep hb⟩ : RL w #[.int .i64 3, .int .i64 0, .slice A d.length ca, .slice B 0 cb] w1).alloc (.cells #[.string ⟨#[116, 105, 99, 107]⟩, .string ⟨#[98, 111, 111, 116]⟩, .string ⟨#[118, 101, 114, 105, 102, 121]⟩, .string ⟨#[99, 111, 109, 112, 97, 99, 116]⟩, .string ⟨#[102, 97, 105, 108]⟩, .string ⟨#[99, 114, 97, 115, 104]⟩] 9)); clear hb; have b0 := HI.out.box.cell 0; have b1 := HI.out.box.cell 1; have b2 := HI.out.box.cell 2; have b3 := HI.out.box.cell 3; simp only [List.getElem?_toArray, List.getElem?_cons_zero, List.getElem?_cons_succ] at b0 b1 b2 b3))
    all_goals
      clear b0 b1 b2
      go_loopw [3, 4] (fun s i wr => s = .string (⟨#[118, 101, 114, 105, 102, 121, 32]⟩ ++ SB (hexL d)) ∧ i = .int .i64 0 ∧ Hid (RL w #[.int .i64 3, .int .i64 0, .slice A d.length ca, .slice B 0 cb] wr)) (fun _ _ _ => 0)
      case atStart => exact ⟨rfl, rfl, HI2⟩
      case round =>
        obtain ⟨rfl, rfl, HO⟩ := hrel
        clear HI2 HI b3
        have b3 := HO.out.box.cell 3
        simp only [List.getElem?_toArray, List.getElem?_cons_zero, List.getElem?_cons_succ] at b3
        go_wp2_with fail
        go_ret
        exact ⟨by rw [HL.out, HLD.out]; show Ending.returned (.string (SB [118, 101, 114, 105, 102, 121, 32] ++ SB (hexL d))) = _; rw [SB_app]; simp [numbered, wordL], HO.out.bel⟩

set_option maxRecDepth 100000 in
set_option maxHeartbeats 8000000 in
theorem rline4 (A B : Option Addr) (ca cb : Nat) (w : World) (hr : rightB ⟨4, 0, [], []⟩ = true)
    (hR : ∀ w1, Below w.heap.size w w1 → Calls Tryd.prog 14 #[.agg #[.int .i64 4, .int .i64 0, .slice A 0 ca, .slice B 0 cb]] w1 fun e w' => e = .returned (.bool true) ∧ Below w1.heap.size w1 w') :
    Calls Tryd.prog 15 #[.agg #[.int .i64 4, .int .i64 0, .slice A 0 ca, .slice B 0 cb]] w fun e w' => e = .returned (.string (SB (lineB ⟨4, 0, [], []⟩))) ∧ Below w.heap.size w w' := by
  have HR := Lib.hid hR
  clear hR
  have HL : Hid (lineB ⟨4, 0, [], []⟩ = lineL ⟨4, 0, [], []⟩) := Lib.hid (by unfold lineB; rw [if_pos hr])
  clear hr
  go_enter Tryd.func15, Tryd.ntmps15
  go_wp2_with (go_at_call 14; refine (HR.out _ (bel1 _ _)).mono ?_; rintro e w1 ⟨rfl, hb⟩; have HI := Lib.hid ((⟨bstep (bel1 _ _) hb, (Blk.new _ _ _).keep hb⟩ : RL w #[.int .i64 4, .int .i64 0, .slice A 0 ca, .slice B 0 cb] w1).alloc (.cells #[.string ⟨#[116, 105, 99, 107]⟩, .string ⟨#[98, 111, 111, 116]⟩, .string ⟨#[118, 101, 114, 105, 102, 121]⟩, .string ⟨#[99, 111, 109, 112, 97, 99, 116]⟩, .string ⟨#[102, 97, 105, 108]⟩, .string ⟨#[99, 114, 97, 115, 104]⟩] 9)); clear hb; have b0 := HI.out.box.cell 0; have b1 := HI.out.box.cell 1; have b2 := HI.out.box.cell 2; have b3 := HI.out.box.cell 3; simp only [List.getElem?_toArray, List.getElem?_cons_zero, List.getElem?_cons_succ] at b0 b1 b2 b3)
  go_loopw [3, 4] (fun s i wr => s = .string (SB (wordL 4)) ∧ i = .int .i64 0 ∧ Hid (RL w #[.int .i64 4, .int .i64 0, .slice A 0 ca, .slice B 0 cb] wr)) (fun _ _ _ => 0)
  case atStart => exact ⟨rfl, rfl, HI⟩
  case round =>
    obtain ⟨rfl, rfl, HO⟩ := hrel
    clear HI b0 b1 b2 b3
    have b3 := HO.out.box.cell 3
    simp only [List.getElem?_toArray, List.getElem?_cons_zero, List.getElem?_cons_succ] at b3
    go_wp2_with fail
    go_ret
    exact ⟨by rw [HL.out]; rfl, HO.out.bel⟩

set_option maxRecDepth 100000 in
set_option maxHeartbeats 8000000 in
theorem rline5 (u : Nat) (A B : Option Addr) (ca cb : Nat) (w : World) (hr : rightB ⟨5, u, [], []⟩ = true) (hu : u ≤ 1099511627776)
    (hR : ∀ w1, Below w.heap.size w w1 → Calls Tryd.prog 14 #[.agg #[.int .i64 5, .int .i64 u, .slice A 0 ca, .slice B 0 cb]] w1 fun e w' => e = .returned (.bool true) ∧ Below w1.heap.size w1 w') :
    Calls Tryd.prog 15 #[.agg #[.int .i64 5, .int .i64 u, .slice A 0 ca, .slice B 0 cb]] w fun e w' => e = .returned (.string (SB (lineB ⟨5, u, [], []⟩))) ∧ Below w.heap.size w w' := by
  have HR := Lib.hid hR
  clear hR
  have HL : Hid (lineB ⟨5, u, [], []⟩ = lineL ⟨5, u, [], []⟩) := Lib.hid (by unfold lineB; rw [if_pos hr])
  clear hr
  have hzu := itoaS_size (u : Int) (by omega) (by omega)
  have HDEC := Lib.hid (fun w1 => dec_any (u : Int) w1 (by omega) (by omega))
  go_enter Tryd.func15, Tryd.ntmps15
  go_wp2_with (first | (have hq := HI.out; clear hq; go_at_call 31; refine (HDEC.out _).mono ?_; rintro e w2 ⟨rfl, d2, hw2⟩; rw [hw2]; clear hw2) | (go_at_call 14; refine (HR.out _ (bel1 _ _)).mono ?_; rintro e w1 ⟨rfl, hb⟩; have HI := Lib.hid ((⟨bstep (bel1 _ _) hb, (Blk.new _ _ _).keep hb⟩ : RL w #[.int .i64 5, .int .i64 u, .slice A 0 ca, .slice B 0 cb] w1).alloc (.cells #[.string ⟨#[116, 105, 99, 107]⟩, .string ⟨#[98, 111, 111, 116]⟩, .string ⟨#[118, 101, 114, 105, 102, 121]⟩, .string ⟨#[99, 111, 109, 112, 97, 99, 116]⟩, .string ⟨#[102, 97, 105, 108]⟩, .string ⟨#[99, 114, 97, 115, 104]⟩] 9)); clear hb; have b0 := HI.out.box.cell 0; have b1 := HI.out.box.cell 1; have b2 := HI.out.box.cell 2; have b3 := HI.out.box.cell 3; simp only [List.getElem?_toArray, List.getElem?_cons_zero, List.getElem?_cons_succ] at b0 b1 b2 b3))
  all_goals
    have HI2 := Lib.hid (HI.out.drewN d2)
    clear HI b0 b1 b2 b3
    go_loopw [3, 4] (fun s i wr => s = .string (⟨#[102, 97, 105, 108, 32]⟩ ++ itoaS u) ∧ i = .int .i64 0 ∧ Hid (RL w #[.int .i64 5, .int .i64 u, .slice A 0 ca, .slice B 0 cb] wr)) (fun _ _ _ => 0)
    case atStart => exact ⟨rfl, rfl, HI2⟩
    case round =>
      obtain ⟨rfl, rfl, HO⟩ := hrel
      clear HI2
      have b3 := HO.out.box.cell 3
      simp only [List.getElem?_toArray, List.getElem?_cons_zero, List.getElem?_cons_succ] at b3
      go_wp2_with fail
      go_ret
      exact ⟨by rw [HL.out, itoaS_SB]; show Ending.returned (.string (SB [102, 97, 105, 108, 32] ++ SB (Lib.itoa u))) = _; rw [SB_app]; simp [lineL, numbered, wordL, cutsL], HO.out.bel⟩

set_option maxRecDepth 100000 in
set_option maxHeartbeats 8000000 in
theorem rline6 (u : Nat) (c : List Int) (A B : Option Addr) (ca cb : Nat) (w : World) (hr : rightB ⟨6, u, [], c⟩ = true) (hu : u ≤ 1099511627776) (hc : Sn w 1 (.slice B c.length cb) c.length (intC c)) (hcl : c.length ≤ 1000000)
    (hR : ∀ w1, Below w.heap.size w w1 → Calls Tryd.prog 14 #[.agg #[.int .i64 6, .int .i64 u, .slice A 0 ca, .slice B c.length cb]] w1 fun e w' => e = .returned (.bool true) ∧ Below w1.heap.size w1 w') :
    Calls Tryd.prog 15 #[.agg #[.int .i64 6, .int .i64 u, .slice A 0 ca, .slice B c.length cb]] w fun e w' => e = .returned (.string (SB (lineB ⟨6, u, [], c⟩))) ∧ Below w.heap.size w w' := by
  have HR := Lib.hid hR
  clear hR
  have HL : Hid (lineB ⟨6, u, [], c⟩ = lineL ⟨6, u, [], c⟩) := Lib.hid (by unfold lineB; rw [if_pos hr])
  have HCUT := Lib.hid (right_p hr).cut
  have HC := Lib.hid hc
  clear hc
  clear hr
  have hzu := itoaS_size (u : Int) (by omega) (by omega)
  have HDEC := Lib.hid (fun w1 => dec_any (u : Int) w1 (by omega) (by omega))
  go_enter Tryd.func15, Tryd.ntmps15
  go_wp2_with (first | (have hq := HI.out; clear hq; go_at_call 31; refine (HDEC.out _).mono ?_; rintro e w2 ⟨rfl, d2, hw2⟩; rw [hw2]; clear hw2) | (go_at_call 14; refine (HR.out _ (bel1 _ _)).mono ?_; rintro e w1 ⟨rfl, hb⟩; have HI := Lib.hid ((⟨bstep (bel1 _ _) hb, (Blk.new _ _ _).keep hb⟩ : RL w #[.int .i64 6, .int .i64 u, .slice A 0 ca, .slice B c.length cb] w1).alloc (.cells #[.string ⟨#[116, 105, 99, 107]⟩, .string ⟨#[98, 111, 111, 116]⟩, .string ⟨#[118, 101, 114, 105, 102, 121]⟩, .string ⟨#[99, 111, 109, 112, 97, 99, 116]⟩, .string ⟨#[102, 97, 105, 108]⟩, .string ⟨#[99, 114, 97, 115, 104]⟩] 9)); clear hb; have b0 := HI.out.box.cell 0; have b1 := HI.out.box.cell 1; have b2 := HI.out.box.cell 2; have b3 := HI.out.box.cell 3; simp only [List.getElem?_toArray, List.getElem?_cons_zero, List.getElem?_cons_succ] at b0 b1 b2 b3))
  all_goals
    have HI2 := Lib.hid (HI.out.drewN d2)
    clear HI b0 b1 b2 b3
    go_loopw [3, 4] (fun s i wr => ∃ j : Nat, j ≤ c.length ∧ s = .string (SB ([99, 114, 97, 115, 104, 32] ++ Lib.itoa u ++ cutsL (c.take j))) ∧ i = .int .i64 j ∧ Hid (RL w #[.int .i64 6, .int .i64 u, .slice A 0 ca, .slice B c.length cb] wr)) (fun _ i _ => c.length - (intOf i).toNat)
    case atStart => exact ⟨0, Nat.zero_le _, by show Value.string (SB [99, 114, 97, 115, 104, 32] ++ SB (Lib.itoa u)) = _; rw [SB_app]; simp [cutsL], rfl, HI2⟩
    case round =>
      obtain ⟨j, hj, rfl, rfl, HO⟩ := hrel
      clear HI2
      have b3 := HO.out.box.cell 3
      simp only [List.getElem?_toArray, List.getElem?_cons_zero, List.getElem?_cons_succ] at b3
      rcases Nat.lt_or_ge j c.length with hlt | hge
      · obtain ⟨b, off, eB, cj⟩ := at_int (HC.out.below HO.out.bel) j hlt
        have HSN := Lib.hid (cutsL_snoc c j hlt)
        have hcut := HCUT.out c[j] (List.getElem_mem hlt)
        obtain ⟨z, hz⟩ : ∃ z, z = c[j] := ⟨_, rfl⟩
        rw [← hz] at HSN hcut cj
        clear hz
        subst eB
        obtain ⟨L, hL⟩ : ∃ L, L = [99, 114, 97, 115, 104, 32] ++ Lib.itoa u ++ cutsL (c.take j) := ⟨_, rfl⟩
        rw [← hL]
        have hLs : (SB L).size ≤ 30 + 21 * c.length := by
          rw [SB_size, hL]
          have h1 := cutsL_len c HCUT.out j hj
          have h2 := itoa_len (u : Int) (by omega) (by omega)
          simp
          omega
        have HLL := Lib.hid hL
        clear hL
        have hzz := itoaS_size z (by omega) (by omega)
        have HDZ := Lib.hid (fun w1 => dec_any z w1 (by omega) (by omega))
        have hj0 : (0 : Int) ≤ j := by omega
        have hj1 : (j : Int) < c.length := by omega
        go_wp2_with (go_at_call 31; refine (HDZ.out _).mono ?_; rintro e w3 ⟨rfl, d3, hw3⟩; rw [hw3]; clear hw3)
        exact ⟨⟨j + 1, by omega, by rw [itoaS_SB]; show Value.string (SB L ++ SB [32] ++ SB (Lib.itoa z)) = _; rw [SB_app, SB_app, HLL.out, HSN.out]; simp, by go_num, Lib.hid (HO.out.drewN _)⟩, by simp [intOf]; omega⟩
      · obtain rfl : j = c.length := by omega
        go_wp2_with fail
        go_ret
        exact ⟨by rw [HL.out, List.take_length]; simp [lineL, numbered, wordL], HO.out.bel⟩

set_option maxRecDepth 100000 in
set_option maxHeartbeats 8000000 in
theorem refLine_any (k n : Int) (d : Bs) (c : List Int) (A B : Option Addr) (ca cb : Nat) (w : World) (hd : Sn w 1 (.slice A d.length ca) d.length (Lib.byteCells d)) (hc : Sn w 1 (.slice B c.length cb) c.length (intC c)) (hdl : d.length ≤ 1000000) (hcl : c.length ≤ 1000000) :
    Calls Tryd.prog 15 #[.agg #[.int .i64 k, .int .i64 n, .slice A d.length ca, .slice B c.length cb]] w fun e w' => e = .returned (.string (SB (lineB ⟨k, n, d, c⟩))) ∧ Below w.heap.size w w' := by
  have HD := Lib.hid hd
  have HC := Lib.hid hc
  have HRC := Lib.hid (fun (w1 : World) (hb : Below w.heap.size w w1) => refRight_any k n d c A B ca cb w1 (HC.out.below hb) (by omega) (by omega))
  clear hd hc
  rcases Bool.eq_false_or_eq_true (rightB ⟨k, n, d, c⟩) with hr | hr
  rotate_left 1
  · have HL : Hid (lineB ⟨k, n, d, c⟩ = []) := Lib.hid (by unfold lineB; rw [hr]; rfl)
    rw [hr] at HRC
    clear hr
    go_enter Tryd.func15, Tryd.ntmps15
    go_wp2_with (go_at_call 14; refine (HRC.out _ (bel1 _ _)).mono ?_; rintro e w' ⟨rfl, hb⟩; have HB := Lib.hid hb; clear hb)
    go_ret
    exact ⟨by rw [HL.out]; rfl, bstep (bel1 _ _) HB.out⟩
  · obtain ⟨u, rfl⟩ := Int.eq_ofNat_of_zero_le (right_p hr).n.1.1
    have hu40 : u ≤ 1099511627776 := by have := (right_p hr).n.1.2; simp at this; omega
    have hK := right_kind hr
    have hRP := right_p hr
    have hR := HRC.out
    rw [hr] at hR
    have hD := HD.out
    have hC := HC.out
    clear HD HC HRC
    rcases hK with e | e | e | e | e | e
    all_goals
      have e2 : k = _ := e
      clear e
      subst e2
    · obtain rfl : d = [] := hRP.data.resolve_left (show ¬ (1 : Int) = 3 by decide)
      obtain rfl : c = [] := hRP.cuts.resolve_left (show ¬ (1 : Int) = 6 by decide)
      exact rline1 u A B ca cb w hr hu40 hR
    · obtain rfl : d = [] := hRP.data.resolve_left (show ¬ (2 : Int) = 3 by decide)
      obtain rfl : c = [] := hRP.cuts.resolve_left (show ¬ (2 : Int) = 6 by decide)
      have hu0 : (u : Int) = 0 := hRP.n.2 (.inl rfl)
      rw [hu0] at hr hR ⊢
      exact rline2 A B ca cb w hr hR
    · obtain rfl : c = [] := hRP.cuts.resolve_left (show ¬ (3 : Int) = 6 by decide)
      have hu0 : (u : Int) = 0 := hRP.n.2 (.inr (.inl rfl))
      rw [hu0] at hr hR ⊢
      exact rline3 d A B ca cb w hr hD hdl hR
    · obtain rfl : d = [] := hRP.data.resolve_left (show ¬ (4 : Int) = 3 by decide)
      obtain rfl : c = [] := hRP.cuts.resolve_left (show ¬ (4 : Int) = 6 by decide)
      have hu0 : (u : Int) = 0 := hRP.n.2 (.inr (.inr rfl))
      rw [hu0] at hr hR ⊢
      exact rline4 A B ca cb w hr hR
    · obtain rfl : d = [] := hRP.data.resolve_left (show ¬ (5 : Int) = 3 by decide)
      obtain rfl : c = [] := hRP.cuts.resolve_left (show ¬ (5 : Int) = 6 by decide)
      exact rline5 u A B ca cb w hr hu40 hR
    · obtain rfl : d = [] := hRP.data.resolve_left (show ¬ (6 : Int) = 3 by decide)
      exact rline6 u c A B ca cb w hr hu40 hC hcl hR
end Go.Proofs.YtmaifldiondchaaDoor
