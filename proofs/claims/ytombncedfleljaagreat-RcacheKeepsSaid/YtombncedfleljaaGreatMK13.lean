/- Parts: frame.Parse. -/
import Derived.Test.YtombncedfleljaaGreatMK10
import Derived.WalkMore
import Derived.ScopeJumps
namespace Go.Proofs.YtombncedfleljaaGreat
open Go.RowKit
attribute [local irreducible] wpQuiet wpAnyH
set_option linter.unusedSimpArgs false

def zeros (l : List Int) : Bool := l.all fun c => decide (c = 0)
/-- The generation and the payload of a record, if it is one. -/
def prs (s : List Int) : Option (Nat × List Int) :=
  if 54 < beN (s.take 2) then none
  else if !zeros ((s.drop (2 + beN (s.take 2))).take (54 - beN (s.take 2))) then none
  else if beN ((s.drop 56).take 4) ≠ crcSum (s.take 56 ++ s.drop 60) then none
  else some (beN ((s.drop 60).take 4), (s.drop 2).take (beN (s.take 2)))

theorem RD.alloc {w : World} {r : Nat} {v : Value} {xs : List Int} {bad : Bool} (h : RD w r v xs bad) (o : Obj) : RD (w.alloc o) r v xs bad := ⟨h.1.alloc o, h.2.alloc o⟩
theorem RD.keep {w w' : World} {r : Nat} {v : Value} {xs : List Int} {bad : Bool} (h : RD w r v xs bad) (hb : Below w.heap.size w w') : RD w' r v xs bad := ⟨Blk.keep h.1 hb, h.2.below hb⟩
theorem parts2 (w : World) {g : Nat} (s : List Int) (hl : s.length = 64) (hB : Blk w g 144 (u8s s).toArray) :
    Parts (w.alloc (.cells #[.slice (some ⟨g, 0, none⟩) 56 64, .slice (some ⟨g, 60, none⟩) 4 4] 78)) (.slice (some ⟨w.heap.size, 0, none⟩) 2 2) [(.slice (some ⟨g, 0, none⟩) 56 64, s.take 56), (.slice (some ⟨g, 60, none⟩) 4 4, s.drop 60)] :=
  ⟨Sn.new w #[.slice (some ⟨g, 0, none⟩) 56 64, .slice (some ⟨g, 60, none⟩) 4 4] 78 1 2 rfl, fun q hq => by
    simp only [List.mem_cons, List.not_mem_nil, or_false] at hq
    rcases hq with rfl | rfl
    · have := (Sn.of_blk hB 0 56 64 (by omega) (by omega)).alloc (.cells #[.slice (some ⟨g, 0, none⟩) 56 64, .slice (some ⟨g, 60, none⟩) 4 4] 78)
      rw [List.drop_zero] at this
      simp only [List.length_take, hl]
      exact this
    · have := (Sn.of_blk hB 60 4 4 (by omega) (by omega)).alloc (.cells #[.slice (some ⟨g, 0, none⟩) 56 64, .slice (some ⟨g, 60, none⟩) 4 4] 78)
      rw [List.take_of_length_le (by rw [List.length_drop]; omega)] at this
      simp only [List.length_drop, hl]
      exact this⟩
theorem parts_off {w w' : World} {g b r : Nat} {s : List Int} {v : Value} {bad : Bool} {A : Option Addr} {k cap : Nat} (h : Parts w (.slice (some ⟨b, 0, none⟩) 2 2) [(.slice (some ⟨g, 0, none⟩) 56 64, s.take 56), (.slice (some ⟨g, 60, none⟩) 4 4, s.drop 60)]) (_ : Blk w g 144 (u8s s).toArray) (hR : Blk w r 227 #[v, .bool bad]) (hv : v = .slice A k cap) (ho : Off r w w') (_ : g ≠ r) (hb : b ≠ r) :
    Parts w' (.slice (some ⟨b, 0, none⟩) 2 2) [(.slice (some ⟨g, 0, none⟩) 56 64, s.take 56), (.slice (some ⟨g, 60, none⟩) 4 4, s.drop 60)] :=
  ⟨h.row.offAt ho hb, fun q hq => (h.part q hq).offB hR hv ho⟩

set_option maxRecDepth 100000 in
set_option maxHeartbeats 2000000 in
theorem frame_parse (s : List Int) (w : World) (hl : s.length = 64) (hb : Bys s) :
    Calls Tryz.prog 143 #[.agg (u8s s).toArray] w fun e w' => Below w.heap.size w w' ∧
      ((prs s = none ∧ e = .returned (.tuple #[.int .u32 0, .slice none 0 0, .bool false])) ∨
       (∃ g p v, prs s = some (g, p) ∧ e = .returned (.tuple #[.int .u32 g, v, .bool true]) ∧ Sn w' 1 v p.length (u8s p))) := by
  have hul : (u8s s).length = 64 := by rw [u8s_length, hl]
  obtain ⟨w1, hw1⟩ : ∃ w1, w1 = w.alloc (.cells (u8s s).toArray 144) := ⟨_, rfl⟩
  have hB1 : Blk w1 w.heap.size 144 (u8s s).toArray := by rw [hw1]; exact Blk.new _ _ _
  have hb1 : Below w.heap.size w w1 := by rw [hw1]; exact (by repeat (first | exact Below.refl _ _ | assumption | refine bdrewN ?_ _ | refine Below.setCell ?_ (by first | exact Nat.le_refl _ | assumption | omega | (simp <;> omega)) _ | refine Below.alloc ?_ (by first | exact Nat.le_refl _ | assumption | omega | (simp <;> omega)) _))
  have hsn : Sn w1 1 (.slice (some ⟨w.heap.size, 0, none⟩) 64 64) s.length (u8s s) := by
    have := Sn.of_blk hB1 0 64 64 (by omega) (by omega)
    rw [List.drop_zero, List.take_of_length_le (by omega)] at this
    rw [hl]; exact this
  have HSN := Lib.hid hsn
  have HB1 := Lib.hid hB1
  have HBY := Lib.hid hb
  have HHL := Lib.hid hl
  clear hsn hB1 hb hl
  go_enter Tryz.func143, Tryz.ntmps143
  go_wp2_with fail
  refine wp_scope_jumps 0 (fun a w' => Below w.heap.size w w' ∧ prs s = none ∧ ∃ u0 u1 u2 u3 u4 u5 u6 u7 u8 u9 u10 u11 u12 u13 u14 u15 u16 u17 u18 u19 u20 u21 u22 u23 u24 u25 u26 u27 u28 u29 u30 u31 u32 u33 u34 u35 u36 u37 u38 u39 u40 u41 u42 u43 : Value, a = { tmps := #[u0, u1, u2, u3, u4, u5, u6, u7, u8, u9, u10, u11, u12, u13, u14, u15, u16, u17, u18, u19, u20, u21, u22, u23, u24, u25, u26, u27, u28, u29, u30, u31, u32, u33, u34, u35, u36, u37, u38, u39, u40, u41, u42, u43], defers := [] }) (fun _ _ => 0) rfl ?first ?pass
  case pass =>
    rintro a wj ⟨hbj, hnj, u0, u1, u2, u3, u4, u5, u6, u7, u8, u9, u10, u11, u12, u13, u14, u15, u16, u17, u18, u19, u20, u21, u22, u23, u24, u25, u26, u27, u28, u29, u30, u31, u32, u33, u34, u35, u36, u37, u38, u39, u40, u41, u42, u43, rfl⟩
    have HJ := Lib.hid (And.intro hbj hnj)
    clear hbj hnj
    go_wp2_with fail
    simp only [Exit.jump]
    go_ret3
    exact ⟨HJ.out.1, .inl ⟨HJ.out.2, rfl⟩⟩
  go_wp2_with fail
  rw [← hw1]
  clear hw1
  refine (wire_new _ s w1 HSN.out (by rw [HHL.out]; omega)).mono ?_
  rintro e w2 ⟨r, v, rfl, hR, hr, hb2⟩
  have hb20 := bstep hb1 hb2
  have HB2 := Lib.hid (HB1.out.keep hb2)
  have hsz1 := hb1.size
  have hrw : w.heap.size ≤ r := by omega
  clear hb2 hr HB1 HSN hb1
  have HR := Lib.hid hR
  clear hR
  go_wp2_with fail
  refine (rd_Number r v s false 2 w2 HR.out HBY.out (by rw [HHL.out]; omega) (by omega) (by omega)).mono ?_
  rintro e w3 ⟨ho3, ⟨_, _, v3, rfl, hR3⟩ | ⟨hbad, _, _⟩⟩
  rotate_left 1
  · exfalso
    rcases hbad with h | h
    · cases h
    · rw [HHL.out] at h; omega
  have hb30 : Below w.heap.size w w3 := hb20.trans (ho3.below hrw hb20.size)
  have hne : w.heap.size ≠ r := by have := HB2.out; intro e; subst e; have h1 := HR.out.1; unfold Blk at h1 this; rw [this] at h1; injection h1 with h1; injection h1 with h1 h2 _; exact absurd h2 (by decide)
  have HB3 := Lib.hid (ho3.blk HB2.out hne)
  obtain ⟨n, hn⟩ : ∃ n, n = beN (s.take 2) := ⟨_, rfl⟩
  have hn16 : n < 65536 := by
    rw [hn]
    have := beN_lt (s.take 2) (fun b hb => HBY.out b (List.mem_of_mem_take hb))
    rw [List.length_take, HHL.out] at this
    exact this
  rw [← hn]
  have HN := Lib.hid hn
  have HR3 := Lib.hid hR3
  clear hn hR3 ho3 hb20 HB2 HR
  rcases Bool.eq_false_or_eq_true (decide ((54 : Int) < n)) with t1 | t1
  · go_wp2_with fail
    go_step3
    simp only [Exit.then, Exit.inBlock]
    refine ⟨rfl, hb30, ?_, ?_⟩
    · unfold prs
      rw [← HN.out, if_pos (by have := of_decide_eq_true t1; omega)]
    · iterate 44 apply Exists.intro
      rfl
  · have hn54 : n ≤ 54 := by have := of_decide_eq_false t1; omega
    have hm : (54 : Int) - n = ((54 - n : Nat) : Int) := by omega
    have hd2 : (s.drop 2).length = 62 := by rw [List.length_drop, HHL.out]
    have HD2 := Lib.hid hd2
    clear hd2
    go_wp2_with fail
    refine (rd_Take r v3 (s.drop 2) false n w3 HR3.out (by rw [HD2.out]; omega) (by omega)).mono ?_
    rintro e w4 ⟨ho4, ⟨_, _, x4, v4, rfl, hs4, hR4⟩ | ⟨hbad, _, _⟩⟩
    rotate_left 1
    · exfalso
      rcases hbad with h | h
      · cases h
      · rw [HD2.out] at h; omega
    have hb40 : Below w.heap.size w w4 := hb30.trans (ho4.below hrw hb30.size)
    have HB4 := Lib.hid (ho4.blk HB3.out hne)
    have HS4 := Lib.hid hs4
    have HR4 := Lib.hid hR4
    have HD4 : Hid (((s.drop 2).drop n).length = 62 - n) := Lib.hid (by rw [List.length_drop, HD2.out])
    clear hs4 hR4 ho4 hb30 HR3 HB3
    go_wp2_with fail
    refine (rd_Take r v4 ((s.drop 2).drop n) false (54 - n) w4 HR4.out (by rw [HD4.out]; omega) (by omega)).mono ?_
    rintro e w5 ⟨ho5, ⟨_, _, x5, v5, rfl, hs5, hR5⟩ | ⟨hbad, _, _⟩⟩
    rotate_left 1
    · exfalso
      rcases hbad with h | h
      · cases h
      · rw [HD4.out] at h; omega
    have hb50 : Below w.heap.size w w5 := hb40.trans (ho5.below hrw hb40.size)
    have HB5 := Lib.hid (ho5.blk HB4.out hne)
    obtain ⟨A5, c5, e5, hc5, _, _⟩ := id hs5
    subst e5
    have HS5 := Lib.hid hs5
    obtain ⟨A4, c4, e4, _, _, _⟩ := id HR4.out.2
    have HS45 : Hid (Sn w5 1 x4 n (u8s ((s.drop 2).take n))) := Lib.hid (HS4.out.offB HR4.out.1 e4 ho5)
    have HR5 := Lib.hid hR5
    have hz : ((s.drop 2).drop n).take (54 - n) = (s.drop (2 + n)).take (54 - n) := by rw [List.drop_drop]
    rw [hz] at HS5 hs5
    have hzl : ((s.drop (2 + n)).take (54 - n)).length = 54 - n := by rw [List.length_take, List.length_drop, HHL.out]; omega
    obtain ⟨z, hzz⟩ : ∃ z, z = (s.drop (2 + n)).take (54 - n) := ⟨_, rfl⟩
    have hzb : Bys z := by rw [hzz]; exact fun b hb => HBY.out b (List.mem_of_mem_drop (List.mem_of_mem_take hb))
    rw [← hzz] at HS5 hzl
    have HZ := Lib.hid hzz
    have HZB := Lib.hid hzb
    have HZL := Lib.hid hzl
    clear hs5 hz hzz hzb hzl hR5 ho5 e4 hb40 HB4 HS4 HR4 HD4
    go_wp2_with fail
    go_loopw [25] (fun i wr => ∃ k : Nat, k ≤ 54 - n ∧ i = .int .i64 k ∧ Hid (∀ c ∈ z.take k, c = 0) ∧ wr = w5) (fun i _ => (54 - n) - (intOf i).toNat)
    case atStart => exact ⟨0, Nat.zero_le _, rfl, Lib.hid (by simp), rfl⟩
    case round =>
      obtain ⟨k, hk, rfl, hz0, hw⟩ := hrel
      rw [hw]
      clear hw
      by_cases hlt : k < 54 - n
      · obtain ⟨A', cap', hA, _, _, hcell⟩ := HS5.out
        injection hA with hA _ hcp
        subst hA hcp
        obtain ⟨b, off, rfl, hr⟩ := hcell (by omega)
        have hkz : k < z.length := by rw [HZL.out]; exact hlt
        have hc := hr k _ (u8s_get z k hkz)
        have hsn : Hid (z[k] = 0 → ∀ c ∈ z.take (k + 1), c = 0) := Lib.hid (fun h0 c hc => by
          rw [List.take_succ_eq_append_getElem hkz, List.mem_append] at hc
          rcases hc with hc | hc
          · exact hz0.out c hc
          · obtain rfl : c = z[k] := by simpa using hc
            exact h0)
        have hns : Hid (z[k] ≠ 0 → zeros z = false) := Lib.hid (fun h0 => by
          unfold zeros
          rw [List.all_eq_false]
          exact ⟨z[k], List.getElem_mem hkz, by simpa using h0⟩)
        obtain ⟨c, hcc⟩ : ∃ c, c = z[k] := ⟨_, rfl⟩
        rw [← hcc] at hc hsn hns
        have hi0 : (0 : Int) ≤ k := by omega
        have hi1 : (k : Int) < ((54 - n : Nat) : Int) := by omega
        clear hr hcell hcc hz0
        rcases Bool.eq_false_or_eq_true (c != 0) with t2 | t2
        · go_wp2_with fail
          go_step3
          simp only [Exit.then, Exit.inBlock]
          refine ⟨rfl, hb50, ?_, ?_⟩
          · unfold prs
            rw [← HN.out, if_neg (by omega), if_pos ?_]
            rw [← HZ.out, hns.out (by simpa using t2)]
            rfl
          · iterate 44 apply Exists.intro
            rfl
        · go_wp2_with fail
          exact ⟨⟨k + 1, by omega, by go_num, Lib.hid (hsn.out (by simpa using t2)), by trivial⟩, by simp [intOf]; omega⟩
      · obtain rfl : k = 54 - n := by omega
        rw [List.take_of_length_le (by rw [HZL.out]; exact Nat.le_refl _)] at hz0
        have HZT : Hid (zeros ((s.drop (2 + n)).take (54 - n)) = true) := Lib.hid (by
          rw [← HZ.out]
          unfold zeros
          rw [List.all_eq_true]
          exact fun c hc => by simpa using hz0.out c hc)
        have hd56 : ((s.drop 2).drop n).drop (54 - n) = s.drop 56 := by rw [List.drop_drop, List.drop_drop]; congr 1; omega
        have hR5 := HR5.out
        rw [hd56] at hR5
        have HR5D : Hid (RD w5.drew r v5 (s.drop 56) false) := Lib.hid hR5
        obtain ⟨A7, c7, e5v, _, _, _⟩ := id hR5.2
        have HB5D : Hid (Blk w5.drew w.heap.size 144 (u8s s).toArray) := Lib.hid HB5.out
        have HS45D : Hid (Sn w5.drew 1 x4 n (u8s ((s.drop 2).take n))) := Lib.hid HS45.out
        have HBW5D : Hid (Below w.heap.size w w5.drew) := Lib.hid hb50.drew
        have HRLT : Hid (r < w5.heap.size) := Lib.hid hR5.1.lt
        have HD56 : Hid ((s.drop 56).length = 8) := Lib.hid (by rw [List.length_drop, HHL.out])
        have HD60 : Hid ((s.drop 60).length = 4) := Lib.hid (by rw [List.length_drop, HHL.out])
        have HD5660 : Hid ((s.drop 56).drop 4 = s.drop 60) := Lib.hid (by rw [List.drop_drop])
        have HBD : Hid (Bys (s.drop 56)) := Lib.hid (fun b hb => HBY.out b (List.mem_of_mem_drop hb))
        have HBD2 : Hid (Bys (s.drop 60)) := Lib.hid (fun b hb => HBY.out b (List.mem_of_mem_drop hb))
        have HG60 : Hid (beN ((s.drop 60).take 4) < 4294967296) := Lib.hid (by
          have := beN_lt ((s.drop 60).take 4) (fun b hb => HBD2.out b (List.mem_of_mem_take hb))
          rw [List.length_take, HD60.out] at this
          exact this)
        have HPB : Hid (∀ q ∈ [(Value.slice (some ⟨w.heap.size, 0, none⟩) 56 64, s.take 56), (Value.slice (some ⟨w.heap.size, 60, none⟩) 4 4, s.drop 60)], Bys q.2) := Lib.hid (fun q hq => by
          simp only [List.mem_cons, List.not_mem_nil, or_false] at hq
          rcases hq with rfl | rfl
          · exact fun b hb => HBY.out b (List.mem_of_mem_take hb)
          · exact HBD2.out)
        have HPL : Hid (∀ q ∈ [(Value.slice (some ⟨w.heap.size, 0, none⟩) 56 64, s.take 56), (Value.slice (some ⟨w.heap.size, 60, none⟩) 4 4, s.drop 60)], q.2.length < 64) := Lib.hid (fun q hq => by
          simp only [List.mem_cons, List.not_mem_nil, or_false] at hq
          rcases hq with rfl | rfl
          · simp only [List.length_take, HHL.out]; omega
          · simp only [HD60.out]; omega)
        have HCA : Hid (cat [(Value.slice (some ⟨w.heap.size, 0, none⟩) 56 64, s.take 56), (Value.slice (some ⟨w.heap.size, 60, none⟩) 4 4, s.drop 60)] = s.take 56 ++ s.drop 60) := Lib.hid (by simp [cat])
        have HX2 := Lib.hid (crcSum_lt (s.take 56 ++ s.drop 60))
        have hcw : IntKind.u64.wrap (crcSum (s.take 56 ++ s.drop 60) : Int) = (crcSum (s.take 56 ++ s.drop 60) : Int) := IntWalk.u64_in _ (by have := HX2.out; omega)
        clear hR5 hd56 hz0 hb50
        go_wp2_with fail
        refine held_start 8 (fun _ => True) (by kernel_rfl) (by kernel_rfl) (trivial) (fun hHeld => ?_)
        refine hMove 0 (Operand.tmp 6) (some 32) (.pointer (some ⟨r, 0, none⟩)) (by kernel_rfl) (by kernel_rfl) (by kernel_rfl) (by kernel_rfl) (by kernel_rfl) (fun _ _ _ h => h) (by exact rfl) hHeld ?_
        simp only [Act.put, List.setIfInBounds_toArray, List.set_cons_zero, List.set_cons_succ]
        refine hTake 2 (Op.slice 144 (Operand.tmp 1) none (some (Operand.const (Value.int IntKind.i64 56))) none) (some 34) (.slice (some ⟨w.heap.size, 0, none⟩) 56 64) (by kernel_rfl) (by kernel_rfl) (by kernel_rfl) (by kernel_rfl) (by kernel_rfl) (fun _ _ _ h => h) (fun o ho wX hX => by unfold execOp; simp only [ho]; go_simp) hHeld ?_
        simp only [Act.put, List.setIfInBounds_toArray, List.set_cons_zero, List.set_cons_succ]
        refine hTake 3 (Op.slice 144 (Operand.tmp 1) (some (Operand.const (Value.int IntKind.i64 60))) none none) (some 35) (.slice (some ⟨w.heap.size, 60, none⟩) 4 4) (by kernel_rfl) (by kernel_rfl) (by kernel_rfl) (by kernel_rfl) (by kernel_rfl) (fun _ _ _ h => h) (fun o ho wX hX => by unfold execOp; simp only [ho]; go_simp) hHeld ?_
        simp only [Act.put, List.setIfInBounds_toArray, List.set_cons_zero, List.set_cons_succ]
        refine wpAnyH_ready (rs := [1, 4]) (by kernel_rfl) (by simp) ?_
        refine rCall 1 (Op.call { callee := Callee.value (Operand.func 121), args := #[Operand.tmp 32, Operand.const (Value.int IntKind.i64 4)], argTypes := #[195, 3] }) (some 33) 121 (#[.pointer (some ⟨r, 0, none⟩), .int .i64 4]) (by kernel_rfl) (by kernel_rfl) (fun o ho => by unfold execOp; simp only [ho]; go_simp) ?_ ?_
        rotate_left 1
        · refine rStep 4 (Op.buildSlice 214 2 #[(0, Operand.tmp 34), (1, Operand.tmp 35)]) (some 36) (.slice (some ⟨w5.drew.heap.size, 0, none⟩) 2 2) (w5.drew.alloc (.cells #[.slice (some ⟨w.heap.size, 0, none⟩) 56 64, .slice (some ⟨w.heap.size, 60, none⟩) 4 4] 78)) (by kernel_rfl) (by kernel_rfl) (fun o ho => by unfold execOp; simp only [ho]; go_simp) trivial ?_ AllReadyH.nil
          simp only [Act.put, List.setIfInBounds_toArray, List.set_cons_zero, List.set_cons_succ]
          refine wpAnyH_ready (rs := [1]) (by kernel_rfl) (by simp) ?_
          refine rCall 1 (Op.call { callee := Callee.value (Operand.func 121), args := #[Operand.tmp 32, Operand.const (Value.int IntKind.i64 4)], argTypes := #[195, 3] }) (some 33) 121 (#[.pointer (some ⟨r, 0, none⟩), .int .i64 4]) (by kernel_rfl) (by kernel_rfl) (fun o ho => by unfold execOp; simp only [ho]; go_simp) ?_ AllReadyH.nil
          refine (rd_Number r v5 (s.drop 56) false 4 (w5.drew.alloc (.cells #[.slice (some ⟨w.heap.size, 0, none⟩) 56 64, .slice (some ⟨w.heap.size, 60, none⟩) 4 4] 78)) (HR5D.out.alloc _) HBD.out (by rw [HD56.out]; omega) (by omega) (by omega)).mono ?_
          rintro e w6 ⟨ho6, ⟨_, _, v6, rfl, hR6⟩ | ⟨hbad, _, _⟩⟩
          rotate_left 1
          · exact absurd hbad (by rw [HD56.out]; simp)
          refine ⟨_, rfl, trivial, fun hHeld => ?_⟩
          simp only [Act.put, List.setIfInBounds_toArray, List.set_cons_zero, List.set_cons_succ]
          have hPA := parts2 w5.drew s HHL.out HB5D.out
          have HPA := Lib.hid (parts_off hPA (HB5D.out.alloc (.cells #[.slice (some ⟨w.heap.size, 0, none⟩) 56 64, .slice (some ⟨w.heap.size, 60, none⟩) 4 4] 78)) (HR5D.out.alloc (.cells #[.slice (some ⟨w.heap.size, 0, none⟩) 56 64, .slice (some ⟨w.heap.size, 60, none⟩) 4 4] 78)).1 e5v ho6 hne (by have := HRLT.out; show w5.heap.size ≠ r; omega))
          have hS6 := (HS45D.out.alloc (.cells #[.slice (some ⟨w.heap.size, 0, none⟩) 56 64, .slice (some ⟨w.heap.size, 60, none⟩) 4 4] 78)).offB (HR5D.out.alloc (.cells #[.slice (some ⟨w.heap.size, 0, none⟩) 56 64, .slice (some ⟨w.heap.size, 60, none⟩) 4 4] 78)).1 e5v ho6
          have hbA := HBW5D.out.alloc HBW5D.out.size (.cells #[.slice (some ⟨w.heap.size, 0, none⟩) 56 64, .slice (some ⟨w.heap.size, 60, none⟩) 4 4] 78)
          have hb6 : Below w.heap.size w w6 := hbA.trans (ho6.below hrw hbA.size)
          refine wpAnyH_ready (rs := [5]) (by kernel_rfl) (by simp) ?_
          refine rCall 5 (Op.call { callee := Callee.value (Operand.func 133), args := #[Operand.tmp 36], argTypes := #[214] }) (some 37) 133 (#[.slice (some ⟨w5.drew.heap.size, 0, none⟩) 2 2]) (by kernel_rfl) (by kernel_rfl) (fun o ho => by unfold execOp; simp only [ho]; go_simp) ?_ AllReadyH.nil
          refine (crc_sum _ [(.slice (some ⟨w.heap.size, 0, none⟩) 56 64, s.take 56), (.slice (some ⟨w.heap.size, 60, none⟩) 4 4, s.drop 60)] _ HPA.out (by simp) HPB.out HPL.out).mono ?_
          rintro e w7 ⟨rfl, hb7⟩
          rw [HCA.out]
          refine ⟨_, rfl, trivial, fun hHeld => ?_⟩
          simp only [Act.put, List.setIfInBounds_toArray, List.set_cons_zero, List.set_cons_succ]
          refine hTake 6 (Op.convert 59 80 (Operand.tmp 37)) (some 38) (.int .u64 (crcSum (s.take 56 ++ s.drop 60))) (by kernel_rfl) (by kernel_rfl) (by kernel_rfl) (by kernel_rfl) (by kernel_rfl) (fun _ _ _ h => h) (fun o ho wX hX => by unfold execOp; simp only [ho]; go_simp) hHeld ?_
          simp only [Act.put, List.setIfInBounds_toArray, List.set_cons_zero, List.set_cons_succ]
          refine hTake 7 (Op.binOp BinOp.neq 80 (Operand.tmp 33) (Operand.tmp 38) 80) (some 39) (.bool (((beN ((s.drop 56).take 4) : Nat) : Int) != ((crcSum (s.take 56 ++ s.drop 60) : Nat) : Int))) (by kernel_rfl) (by kernel_rfl) (by kernel_rfl) (by kernel_rfl) (by kernel_rfl) (fun _ _ _ h => h) (fun o ho wX hX => by unfold execOp; simp only [ho]; go_simp) hHeld ?_
          simp only [Act.put, List.setIfInBounds_toArray, List.set_cons_zero, List.set_cons_succ]
          refine wpAnyH_done (by kernel_rfl) ?_ _
          have HRF := Lib.hid (hR6.keep hb7)
          have HSF := Lib.hid (hS6.below hb7)
          have HBF := Lib.hid (bstep hb6 hb7)
          clear hPA hS6 hb6 hR6 ho6 hb7 hbA
          by_cases e3 : beN ((s.drop 56).take 4) = crcSum (s.take 56 ++ s.drop 60)
          rotate_left 1
          · have t3 : (((beN ((s.drop 56).take 4) : Nat) : Int) != ((crcSum (s.take 56 ++ s.drop 60) : Nat) : Int)) = true := bne_iff_ne.2 (by omega)
            rw [t3]
            go_wp2_with fail
            go_step3
            simp only [Exit.then, Exit.inBlock]
            refine ⟨rfl, HBF.out, ?_, ?_⟩
            · unfold prs
              rw [← HN.out, if_neg (by omega), if_neg (by rw [HZT.out]; simp), if_pos e3]
            · iterate 44 apply Exists.intro
              rfl
          · have t3 : (((beN ((s.drop 56).take 4) : Nat) : Int) != ((crcSum (s.take 56 ++ s.drop 60) : Nat) : Int)) = false := by rw [e3]; exact bne_self_eq_false _
            rw [t3]
            have hgw : IntKind.u32.wrap (beN ((s.drop 60).take 4) : Int) = (beN ((s.drop 60).take 4) : Int) := IntWalk.u32_in _ (by have := HG60.out; omega)
            go_wp2_with fail
            refine (rd_Number r v6 (s.drop 60) false 4 w7 (by have := HRF.out; rw [HD5660.out] at this; exact this) HBD2.out (by rw [HD60.out]; omega) (by omega) (by omega)).mono ?_
            rintro e w8 ⟨ho8, ⟨_, _, v8, rfl, hR8⟩ | ⟨hbad, _, _⟩⟩
            rotate_left 1
            · exact absurd hbad (by rw [HD60.out]; simp)
            obtain ⟨A6, c6, e6, _, _, _⟩ := id HRF.out.2
            have HS8 := Lib.hid (HSF.out.offB HRF.out.1 e6 ho8)
            have HB8 : Hid (Below w.heap.size w w8) := Lib.hid (HBF.out.trans (ho8.below hrw HBF.out.size))
            clear ho8 hR8 e6
            go_wp2_with fail
            simp only [Exit.jump]
            go_ret3
            refine ⟨HB8.out, .inr ⟨_, (s.drop 2).take n, x4, ?_, rfl, ?_⟩⟩
            · unfold prs
              rw [← HN.out, if_neg (by omega), if_neg (by rw [HZT.out]; simp), if_neg (fun h => h e3)]
            · have := HS8.out
              rw [List.length_take, HD2.out, Nat.min_eq_left (by omega)]
              exact this
        · refine (rd_Number r v5 (s.drop 56) false 4 w5.drew HR5D.out HBD.out (by rw [HD56.out]; omega) (by omega) (by omega)).mono ?_
          rintro e w6 ⟨ho6, ⟨_, _, v6, rfl, hR6⟩ | ⟨hbad, _, _⟩⟩
          rotate_left 1
          · exact absurd hbad (by rw [HD56.out]; simp)
          refine ⟨_, rfl, trivial, fun hHeld => ?_⟩
          simp only [Act.put, List.setIfInBounds_toArray, List.set_cons_zero, List.set_cons_succ]
          have hB6 := ho6.blk HB5D.out hne
          have hS6 := HS45D.out.offB HR5D.out.1 e5v ho6
          have hb6 : Below w.heap.size w w6 := HBW5D.out.trans (ho6.below hrw HBW5D.out.size)
          refine wpAnyH_ready (rs := [4]) (by kernel_rfl) (by simp) ?_
          refine rStep 4 (Op.buildSlice 214 2 #[(0, Operand.tmp 34), (1, Operand.tmp 35)]) (some 36) (.slice (some ⟨w6.heap.size, 0, none⟩) 2 2) (w6.alloc (.cells #[.slice (some ⟨w.heap.size, 0, none⟩) 56 64, .slice (some ⟨w.heap.size, 60, none⟩) 4 4] 78)) (by kernel_rfl) (by kernel_rfl) (fun o ho => by unfold execOp; simp only [ho]; go_simp) trivial ?_ AllReadyH.nil
          simp only [Act.put, List.setIfInBounds_toArray, List.set_cons_zero, List.set_cons_succ]
          have HPA := Lib.hid (parts2 w6 s HHL.out hB6)
          refine wpAnyH_ready (rs := [5]) (by kernel_rfl) (by simp) ?_
          refine rCall 5 (Op.call { callee := Callee.value (Operand.func 133), args := #[Operand.tmp 36], argTypes := #[214] }) (some 37) 133 (#[.slice (some ⟨w6.heap.size, 0, none⟩) 2 2]) (by kernel_rfl) (by kernel_rfl) (fun o ho => by unfold execOp; simp only [ho]; go_simp) ?_ AllReadyH.nil
          refine (crc_sum _ [(.slice (some ⟨w.heap.size, 0, none⟩) 56 64, s.take 56), (.slice (some ⟨w.heap.size, 60, none⟩) 4 4, s.drop 60)] _ HPA.out (by simp) HPB.out HPL.out).mono ?_
          rintro e w7 ⟨rfl, hb7⟩
          rw [HCA.out]
          refine ⟨_, rfl, trivial, fun hHeld => ?_⟩
          simp only [Act.put, List.setIfInBounds_toArray, List.set_cons_zero, List.set_cons_succ]
          refine hTake 6 (Op.convert 59 80 (Operand.tmp 37)) (some 38) (.int .u64 (crcSum (s.take 56 ++ s.drop 60))) (by kernel_rfl) (by kernel_rfl) (by kernel_rfl) (by kernel_rfl) (by kernel_rfl) (fun _ _ _ h => h) (fun o ho wX hX => by unfold execOp; simp only [ho]; go_simp) hHeld ?_
          simp only [Act.put, List.setIfInBounds_toArray, List.set_cons_zero, List.set_cons_succ]
          refine hTake 7 (Op.binOp BinOp.neq 80 (Operand.tmp 33) (Operand.tmp 38) 80) (some 39) (.bool (((beN ((s.drop 56).take 4) : Nat) : Int) != ((crcSum (s.take 56 ++ s.drop 60) : Nat) : Int))) (by kernel_rfl) (by kernel_rfl) (by kernel_rfl) (by kernel_rfl) (by kernel_rfl) (fun _ _ _ h => h) (fun o ho wX hX => by unfold execOp; simp only [ho]; go_simp) hHeld ?_
          simp only [Act.put, List.setIfInBounds_toArray, List.set_cons_zero, List.set_cons_succ]
          refine wpAnyH_done (by kernel_rfl) ?_ _
          have HRF := Lib.hid ((hR6.alloc (.cells #[.slice (some ⟨w.heap.size, 0, none⟩) 56 64, .slice (some ⟨w.heap.size, 60, none⟩) 4 4] 78)).keep hb7)
          have HSF := Lib.hid ((hS6.alloc (.cells #[.slice (some ⟨w.heap.size, 0, none⟩) 56 64, .slice (some ⟨w.heap.size, 60, none⟩) 4 4] 78)).below hb7)
          have HBF := Lib.hid (bstep (hb6.alloc hb6.size (.cells #[.slice (some ⟨w.heap.size, 0, none⟩) 56 64, .slice (some ⟨w.heap.size, 60, none⟩) 4 4] 78)) hb7)
          clear hB6 hS6 hb6 hR6 ho6 hb7
          by_cases e3 : beN ((s.drop 56).take 4) = crcSum (s.take 56 ++ s.drop 60)
          rotate_left 1
          · have t3 : (((beN ((s.drop 56).take 4) : Nat) : Int) != ((crcSum (s.take 56 ++ s.drop 60) : Nat) : Int)) = true := bne_iff_ne.2 (by omega)
            rw [t3]
            go_wp2_with fail
            go_step3
            simp only [Exit.then, Exit.inBlock]
            refine ⟨rfl, HBF.out, ?_, ?_⟩
            · unfold prs
              rw [← HN.out, if_neg (by omega), if_neg (by rw [HZT.out]; simp), if_pos e3]
            · iterate 44 apply Exists.intro
              rfl
          · have t3 : (((beN ((s.drop 56).take 4) : Nat) : Int) != ((crcSum (s.take 56 ++ s.drop 60) : Nat) : Int)) = false := by rw [e3]; exact bne_self_eq_false _
            rw [t3]
            have hgw : IntKind.u32.wrap (beN ((s.drop 60).take 4) : Int) = (beN ((s.drop 60).take 4) : Int) := IntWalk.u32_in _ (by have := HG60.out; omega)
            go_wp2_with fail
            refine (rd_Number r v6 (s.drop 60) false 4 w7 (by have := HRF.out; rw [HD5660.out] at this; exact this) HBD2.out (by rw [HD60.out]; omega) (by omega) (by omega)).mono ?_
            rintro e w8 ⟨ho8, ⟨_, _, v8, rfl, hR8⟩ | ⟨hbad, _, _⟩⟩
            rotate_left 1
            · exact absurd hbad (by rw [HD60.out]; simp)
            obtain ⟨A6, c6, e6, _, _, _⟩ := id HRF.out.2
            have HS8 := Lib.hid (HSF.out.offB HRF.out.1 e6 ho8)
            have HB8 : Hid (Below w.heap.size w w8) := Lib.hid (HBF.out.trans (ho8.below hrw HBF.out.size))
            clear ho8 hR8 e6
            go_wp2_with fail
            simp only [Exit.jump]
            go_ret3
            refine ⟨HB8.out, .inr ⟨_, (s.drop 2).take n, x4, ?_, rfl, ?_⟩⟩
            · unfold prs
              rw [← HN.out, if_neg (by omega), if_neg (by rw [HZT.out]; simp), if_neg (fun h => h e3)]
            · have := HS8.out
              rw [List.length_take, HD2.out, Nat.min_eq_left (by omega)]
              exact this
end Go.Proofs.YtombncedfleljaaGreat
