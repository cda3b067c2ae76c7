/- script.parseData, script.parseCrash. -/
import Derived.Test.YtmaifldiondchaaDoorPar0
import Derived.Test.YtmaifldiondchaaDoorOwnT
namespace Go.Proofs.YtmaifldiondchaaDoor
open Go.RowKit
set_option linter.unusedSimpArgs false

theorem hexB_len : ∀ (k : Nat) (s d : Bs), s.length ≤ k → hexB s = some d → s.length = 2 * d.length := by
  intro k s d _ h
  have := hexL_hexB _ s d (Nat.le_refl _) h
  rw [← this, hexL_length]
theorem idxB_digits (c : UInt8) : Lib.indexByte digitsS.data.toList c = if digV c ≤ 15 then (digV c : Int) else -1 := by
  have key : ∀ n, n < 256 → Lib.indexByte digitsS.data.toList (UInt8.ofNat n) = if digV (UInt8.ofNat n) ≤ 15 then (digV (UInt8.ofNat n) : Int) else -1 := by decide +kernel
  have := key c.toNat (UInt8.toNat_lt c)
  simpa using this
theorem idxB_call (z : Nat) (w : World) :
    Calls Tryd.prog 53 #[.string ⟨#[48, 49, 50, 51, 52, 53, 54, 55, 56, 57, 97, 98, 99, 100, 101, 102]⟩, .int .u8 (z : Int)] w fun e w' => e = .returned (.int .i64 (if digV (UInt8.ofNat z) ≤ 15 then (digV (UInt8.ofNat z) : Int) else -1)) ∧ w' = w := by
  have h := Tryd.strings_IndexByte digitsS (z : Int) w
  rw [show ((z : Int).toNat.toUInt8) = UInt8.ofNat z from rfl, idxB_digits] at h
  exact h
theorem drop_two {s : Bs} {j : Nat} (h : 2 * j + 1 < s.length) : s.drop (2 * j) = s[2 * j] :: s[2 * j + 1] :: s.drop (2 * (j + 1)) := by
  rw [List.drop_eq_getElem_cons (by omega), List.drop_eq_getElem_cons (by omega)]
  rfl
theorem bits_hex (a b : Nat) (ha : a < 16) (hb : b < 16) : bits .or .i64 (16 * (a : Int)) (b : Int) = ((16 * a + b : Nat) : Int) := by
  have key : ∀ a : Nat, a < 16 → ∀ b : Nat, b < 16 → bits .or .i64 (16 * (a : Int)) (b : Int) = ((16 * a + b : Nat) : Int) := by decide +kernel
  exact key a ha b hb
def dataR (s : Bs) : Bs × Bool := if s.length = 0 ∨ s.length > 262144 then ([], false) else match hexB s with
  | some d => (d, true)
  | none => ([], false)
theorem hexB_odd : ∀ (k : Nat) (s : Bs), s.length ≤ k → s.length % 2 = 1 → hexB s = none := by
  intro k s _ ho
  cases h : hexB s with
  | none => rfl
  | some d => have := hexB_len _ s d (Nat.le_refl _) h; omega

set_option maxRecDepth 100000 in
set_option maxHeartbeats 4000000 in
theorem parseData_any (s : Bs) (w : World) (hm : s.length ≤ 100000000) :
    Calls Tryd.prog 45 #[.string (SB s)] w fun e w' => ∃ v, e = .returned (.tuple #[v, .bool (dataR s).2]) ∧ OwnB w' w.heap.size v (dataR s).1 ∧ Below w.heap.size w w' := by
  have hix := idx_at s
  obtain ⟨S, hS⟩ : ∃ S, S = SB s := ⟨_, rfl⟩
  have hsz : S.size = s.length := by rw [hS, SB_size]
  rw [← hS] at hix ⊢
  have HIX := Lib.hid hix
  clear hix hS
  have hnil : OwnB w w.heap.size (.slice none 0 0) [] := World.ownsRow_nil _ _ _ _
  rcases Bool.eq_false_or_eq_true ((s.length : Int) == 0) with t1 | t1
  · have HN : Hid (dataR s = ([], false)) := Lib.hid (by unfold dataR; rw [if_pos]; left; have := beq_iff_eq.1 t1; omega)
    go_enter Tryd.func45, Tryd.ntmps45
    go_wp2_with fail
    go_ret2
    exact ⟨_, by rw [HN.out]; rfl, by rw [HN.out]; exact hnil, Below.refl _ _⟩
  have hne : s.length ≠ 0 := by have := beq_eq_false_iff_ne.1 t1; omega
  obtain ⟨q, hq⟩ : ∃ q : Nat, q = s.length % 2 := ⟨_, rfl⟩
  have y1 : (s.length : Int).tmod 2 = (q : Int) := by rw [Int.tmod_eq_emod_of_nonneg (by omega)]; omega
  have y2 : (s.length : Int) % 2 = (q : Int) := by omega
  have y3 : IntKind.i64.wrap (q : Int) = q := IntWalk.i64_in _ (by omega)
  rcases Bool.eq_false_or_eq_true ((q : Int) != 0) with t2 | t2
  · have HN : Hid (dataR s = ([], false)) := Lib.hid (by
      unfold dataR
      split
      · rfl
      · rw [hexB_odd _ s (Nat.le_refl _) (by rw [bne_iff_ne] at t2; omega)])
    clear hq
    go_enter Tryd.func45, Tryd.ntmps45
    go_wp2_with fail
    go_ret2
    exact ⟨_, by rw [HN.out]; rfl, by rw [HN.out]; exact hnil, Below.refl _ _⟩
  rcases Bool.eq_false_or_eq_true (decide ((262144 : Int) < s.length)) with t3 | t3
  · have HN : Hid (dataR s = ([], false)) := Lib.hid (by unfold dataR; rw [if_pos]; right; have := of_decide_eq_true t3; omega)
    clear hq
    go_enter Tryd.func45, Tryd.ntmps45
    go_wp2_with fail
    go_ret2
    exact ⟨_, by rw [HN.out]; rfl, by rw [HN.out]; exact hnil, Below.refl _ _⟩
  have hl : s.length ≤ 262144 := by have := of_decide_eq_false t3; omega
  have hq0 : q = 0 := by simpa using t2
  obtain ⟨h, hh⟩ : ∃ h : Nat, s.length = 2 * h := ⟨s.length / 2, by omega⟩
  clear hq0
  have HDR : Hid (dataR s = match hexB s with | some d => (d, true) | none => ([], false)) := Lib.hid (by unfold dataR; rw [if_neg (by omega)])
  have z1 : (s.length : Int).tdiv 2 = (h : Int) := by rw [Int.tdiv_eq_ediv_of_nonneg (by omega)]; omega
  have z2 : (s.length : Int) / 2 = (h : Int) := by omega
  have z3 : IntKind.i64.wrap (h : Int) = h := IntWalk.i64_in _ (by omega)
  obtain ⟨i, hi, hz, hs1, hby⟩ := iByte
  obtain ⟨w1, hmk, hown, hgr⟩ := run_make_own (P := Tryd.prog) w w.heap.size 23 5 i (.int .u8 0) 1 Tryd.underlying23 hi hz hs1 .i64 .i64 h (by rw [hby]; omega) (by unfold maxLen; omega) (Nat.le_refl _)
  have HO := Lib.hid hown
  have HB1 : Hid (Below w.heap.size w w1) := Lib.hid ((Below.refl _ w).grown hgr (Nat.le_refl _) (fun k hk => by cases hk))
  obtain ⟨v0, hv0⟩ : ∃ v0, v0 = Value.slice (some ⟨w.heap.size, 0, none⟩) 0 h := ⟨_, rfl⟩
  rw [← hv0] at hmk HO
  have HH := Lib.hid hh
  clear hown hgr hq hv0 hi hz hs1 hby hh
  go_enter Tryd.func45, Tryd.ntmps45
  go_wp2_with fail
  clear hmk
  go_loopw [4, 5] (fun m i wr => ∃ (j : Nat) (D : Bs), j ≤ h ∧ i = .int .i64 ((2 * j : Nat) : Int) ∧ D.length = j ∧ Hid (OwnB wr w.heap.size m D) ∧ Hid (Below w.heap.size w wr) ∧ Hid (hexB s = (hexB (s.drop (2 * j))).map (D ++ ·))) (fun _ i _ => s.length - (intOf i).toNat)
  case atStart => exact ⟨0, [], Nat.zero_le _, rfl, rfl, HO, HB1, Lib.hid (by simp)⟩
  case round =>
    obtain ⟨j, D, hj, rfl, hDl, HOJ, HBJ, HXJ⟩ := hrel
    have hszr := HBJ.out.size
    rcases Nat.lt_or_ge j h with hlt | hge
    · have hh1 : 2 * j + 1 < s.length := by have := HH.out; omega
      have hdr := drop_two (s := s) (j := j) hh1
      have hx0 := HIX.out (2 * j) (by omega)
      have hx1 := HIX.out (2 * j + 1) (by omega)
      obtain ⟨x, hx⟩ : ∃ x, x = s[2 * j] := ⟨_, rfl⟩
      obtain ⟨y, hy⟩ : ∃ y, y = s[2 * j + 1] := ⟨_, rfl⟩
      rw [← hx] at hx0 hdr
      rw [← hy] at hx1 hdr
      clear hx hy
      rw [hdr] at HXJ
      have hcx := fun w => idxB_call x.toNat w
      have hcy := fun w => idxB_call y.toNat w
      rw [UInt8.ofNat_toNat] at hcx hcy
      obtain ⟨zx, hzx⟩ : ∃ zx, zx = (x.toNat : Int) := ⟨_, rfl⟩
      obtain ⟨zy, hzy⟩ : ∃ zy, zy = (y.toNat : Int) := ⟨_, rfl⟩
      rw [← hzx] at hcx hx0
      rw [← hzy] at hcy hx1
      clear hzx hzy hdr
      obtain ⟨a, ha⟩ : ∃ a, a = digV x := ⟨_, rfl⟩
      obtain ⟨b, hb⟩ : ∃ b, b = digV y := ⟨_, rfl⟩
      rw [← ha] at hcx
      rw [← hb] at hcy
      have HHX : Hid (hexB (x :: y :: s.drop (2 * (j + 1))) = if a ≤ 15 ∧ b ≤ 15 then (hexB (s.drop (2 * (j + 1)))).map (UInt8.ofNat (a * 16 + b) :: ·) else none) := Lib.hid (by rw [ha, hb]; rfl)
      clear ha hb
      obtain ⟨p, hp⟩ : ∃ p, p = ((2 * j : Nat) : Int) := ⟨_, rfl⟩
      have hp1 : ((2 * j + 1 : Nat) : Int) = p + 1 := by omega
      rw [← hp] at hx0 ⊢
      rw [hp1] at hx1
      have t5 : decide (p < (s.length : Int)) = true := by simp; omega
      have y5 : IntKind.i64.wrap (p + 1) = p + 1 := IntWalk.i64_in _ (by omega)
      have y6 : IntKind.i64.wrap (p + 2) = p + 2 := IntWalk.i64_in _ (by omega)
      have HCX := Lib.hid hcx
      have HCY := Lib.hid hcy
      have hp0 : 0 ≤ p := by omega
      have hp2 : p + 1 < (s.length : Int) := by omega
      have HP := Lib.hid hp
      clear hcx hcy hp hp1
      have HBAD : Hid (¬ (a ≤ 15 ∧ b ≤ 15) → dataR s = ([], false)) := Lib.hid (fun hn => by
        rw [HDR.out, HXJ.out, HHX.out, if_neg hn]; rfl)
      rcases Nat.lt_or_ge 15 a with ha | ha
      · have HN := Lib.hid (HBAD.out (by omega))
        have e1 : (if a ≤ 15 then (a : Int) else -1) = -1 := if_neg (by omega)
        have HCX2 := HCX
        rw [e1] at HCX2
        obtain ⟨yb, hyb⟩ : ∃ yb, yb = (if b ≤ 15 then (b : Int) else -1) := ⟨_, rfl⟩
        rw [← hyb] at HCY
        clear HCX e1 hyb
        go_wp2_with (first
          | (go_at_call 53; refine (HCX2.out _).mono ?_; rintro e w' ⟨rfl, rfl⟩)
          | (go_at_call 53; refine (HCY.out _).mono ?_; rintro e w' ⟨rfl, rfl⟩))
        go_ret2
        exact ⟨_, by rw [HN.out]; rfl, by rw [HN.out]; exact World.ownsRow_nil _ _ _ _, HBJ.out⟩
      · rw [if_pos ha] at HCX
        have hd1 : decide ((a : Int) < 0) = false := by simp
        rcases Nat.lt_or_ge 15 b with hb | hb
        · have HN := Lib.hid (HBAD.out (by omega))
          rw [if_neg (by omega)] at HCY
          go_wp2_with (first
            | (go_at_call 53; refine (HCX.out _).mono ?_; rintro e w' ⟨rfl, rfl⟩)
            | (go_at_call 53; refine (HCY.out _).mono ?_; rintro e w' ⟨rfl, rfl⟩))
          go_ret2
          exact ⟨_, by rw [HN.out]; rfl, by rw [HN.out]; exact World.ownsRow_nil _ _ _ _, HBJ.out⟩
        · rw [if_pos hb] at HCY
          have hd2 : decide ((b : Int) < 0) = false := by simp
          have k1 : IntKind.i64.wrap ((a : Int) * 16) = 16 * (a : Int) := by rw [Int.mul_comm]; exact IntWalk.i64_in _ (by omega)
          have k2 := bits_hex a b (by omega) (by omega)
          have k3 : IntKind.u8.wrap (((16 * a + b : Nat) : Int)) = ((16 * a + b : Nat) : Int) := by unfold IntKind.wrap; simp [IntKind.signed, IntKind.bits]; omega
          obtain ⟨c, hc⟩ : ∃ c : UInt8, c = UInt8.ofNat (a * 16 + b) := ⟨_, rfl⟩
          have k4 : ((16 * a + b : Nat) : Int) = (c.toNat : Int) := by rw [hc, ofNat_toNat (by omega)]; omega
          rw [← hc] at HHX
          rw [k4] at k2 k3
          clear hc k4
          go_wp2_with (first
            | (go_at_call 53; refine (HCX.out _).mono ?_; rintro e w' ⟨rfl, hw'⟩; rw [hw']; clear hw')
            | (go_at_call 53; refine (HCY.out _).mono ?_; rintro e w' ⟨rfl, hw'⟩; rw [hw']; clear hw')
            | (at_builtin; refine app tByt (.tmp 47) (.tmp 53) rfl rfl (by rfl) (World.ownsRow.alloc HOJ.out _) (by rfl) (Sn.new wr (Lib.byteCells [c]).toArray 5 1 1 rfl) (byteCells_one [c]) (by unfold maxLen; omega) (by omega) (by simp; omega) ?_; intro v3 w3 hown hgrow _; rw [List.toList_toArray, ← byteCells_append] at hown; have HO3 := Lib.hid hown; have HB3 := Lib.hid ((HBJ.out.alloc hszr _).grown hgrow (by simp; omega) (fun g hg => (World.ownsRow.lt HOJ.out g hg).1)); clear hown hgrow))
          exact ⟨⟨j + 1, D ++ [c], by omega, by rw [HP.out]; congr 1, by simp; omega, Lib.hid (by unfold OwnB; rw [List.length_append]; exact HO3.out), HB3, Lib.hid (by rw [HXJ.out, HHX.out, if_pos ⟨ha, hb⟩, Option.map_map]; congr 1; funext l; simp)⟩, by rw [HP.out]; simp [intOf]; omega⟩
    · obtain rfl : j = h := by omega
      have hx := HXJ.out
      have hh2 : s.length ≤ 2 * j := by have := HH.out; omega
      rw [show s.drop (2 * j) = [] from List.drop_eq_nil_of_le hh2] at hx
      have HN : Hid (dataR s = (D, true)) := Lib.hid (by rw [HDR.out, hx]; simp [hexB])
      clear hx
      have t5 : decide (((2 * j : Nat) : Int) < (s.length : Int)) = false := by simp; omega
      have t6 : decide (2 * j < s.length) = false := by simp; omega
      go_wp2_with fail
      go_ret2
      exact ⟨_, by rw [HN.out]; rfl, by rw [HN.out]; exact HOJ.out, HBJ.out⟩
end Go.Proofs.YtmaifldiondchaaDoor
