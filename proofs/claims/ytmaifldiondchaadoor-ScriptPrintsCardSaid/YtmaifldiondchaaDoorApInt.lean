/- strconv.AppendInt at base 10 and a number that is not negative, onto a row of bytes whose frozen stretch may lie behind it. -/
import Derived.Test.YtmaifldiondchaaDoorOwnT
import Derived.Test.YtmaifldiondchaaDoorTabl
namespace Go.Proofs.YtmaifldiondchaaDoor
open Go.RowKit Go.Sort

theorem dec_len20 (u : Nat) (hu : u < 18446744073709551616) : (Lib.decDigits u).length ≤ 20 := by
  have := nDigits_le u 19 (by omega)
  rw [← Lib.decDigits_length] at this
  exact this

set_option maxRecDepth 100000 in
set_option maxHeartbeats 4000000 in
theorem appUintSmall (base u : Nat) (hu : u < 100) (v : Value) (l : Bs) (w : World) (hown : OwnT w base v l) (hbase : base ≤ w.heap.size) (hlim : l.length + 20 ≤ 140737488355328) :
    Calls Tryd.prog 54 #[v, .int .u64 u, .int .i64 10] w fun e w' => ∃ v', e = .returned v' ∧ OwnT w' base v' (l ++ Lib.decDigits u) ∧ w.grownBy w' v.ownBlock := by
  have HO := Lib.hid hown
  clear hown
  have h20 := dec_len20 u (by omega)
  have t0 : decide ((u : Int) < 100) = true := by simp; omega
  go_enter Tryd.func54, Tryd.ntmps54
  go_wp2_with (first
    | (go_at_call 58; refine (Tryd.internal_strconv_small u hu _).mono ?_; rintro e w' ⟨rfl, rfl⟩)
    | (at_builtin; refine appTS (.tmp 13) (.tmp 16) rfl rfl (by rfl) HO.out (m := Lib.decDigits u) (by rfl) (by omega) hbase ?_; intro v' w1 h1 h2; have H1 := Lib.hid h1; have H2 := Lib.hid h2; clear h1 h2))
  go_ret
  exact ⟨v', rfl, H1.out, H2.out⟩

set_option maxRecDepth 100000 in
set_option maxHeartbeats 4000000 in
theorem appUintBig (base u : Nat) (hu : 100 ≤ u) (hu64 : u < 18446744073709551616) (v : Value) (l : Bs) (w : World) (ht : Tab w) (hown : OwnT w base v l) (hbase : base ≤ w.heap.size) (hlim : l.length + 20 ≤ 140737488355328) :
    Calls Tryd.prog 54 #[v, .int .u64 u, .int .i64 10] w fun e w' => ∃ v', e = .returned v' ∧ OwnT w' base v' (l ++ Lib.decDigits u) ∧ w.grownBy w' v.ownBlock := by
  have HO := Lib.hid hown
  have HT := Lib.hid ht
  clear hown ht
  have h20 := dec_len20 u hu64
  have hnd : Lib.nDigits u ≤ 20 := by rw [← Lib.decDigits_length]; exact h20
  have hnl := Lib.decDigits_length u
  have hpos := Lib.nDigits_pos u
  have t0 : decide ((u : Int) < 100) = false := by simp; omega
  have hal : Tryd.prog.arrayLen 97 = 24 := by kernel_rfl
  have hsl : ∀ W, (Instr.sliceAt 97 (.pointer (some ⟨w.heap.size, 0, none⟩)) none (some (.int .i64 (Lib.nDigits u : Int))) none).run Tryd.prog W = .ok (.slice (some ⟨w.heap.size, 0, none⟩) (Lib.nDigits u) 24) W := fun W => by
    rw [run_sliceAt_array_h W 97 ⟨w.heap.size, 0, none⟩ (by kernel_rfl) .i64 (Lib.nDigits u : Int) (by omega) (by rw [hal]; omega)]
    go_simp
  have HSL := Lib.hid hsl
  have hH0 := Lib.holds_zero0 w 97 (Lib.nDigits u) (by omega)
  have hfmt := Tryd.internal_strconv_formatBase10 w.heap.size 0 24 u (Array.replicate (Lib.nDigits u) 0) (w.alloc (.cells Lib.zeros24 97)) hH0 (by rw [Array.size_replicate]; exact Lib.lt_pow_nDigits u) hu64 (by rw [Array.size_replicate]; omega)
  rw [Array.size_replicate] at hfmt
  have HF : Hid (Calls Tryd.prog 60 #[.slice (some ⟨w.heap.size, 0, none⟩) (Lib.nDigits u) 24, .int .u64 u] (w.alloc (.cells Lib.zeros24 97)) fun e w' => e = .returned (.tuple #[]) ∧ Below w.heap.size w w' ∧ w.heap.size ≤ w'.heap.size ∧ ∀ j (hj : j < (Lib.decDigits u).length), w'.cell? ⟨w.heap.size, 0 + j, none⟩ = some (.int .u8 ((Lib.decDigits u)[j].toNat : Int))) := Lib.hid (by
    refine hfmt.mono ?_
    rintro e w' ⟨rfl, k, v', dk, rfl, hF⟩
    obtain ⟨os, eo⟩ := Lib.fin_at w (.cells Lib.zeros24 97) dk k 0
    refine ⟨rfl, by rw [eo]; exact Lib.below_grow w.heap.size w (Nat.le_refl _) k os, by rw [eo]; exact Lib.size_grow w k os, fun j hj => ?_⟩
    rw [Lib.row_is_numeral hF j hj, World.cell?_drewN]
    exact cell?_putRow (fun (b : UInt8) => Value.int .u8 (b.toNat : Int)) _ w.heap.size 0 _ dk hH0 (by rw [hF.size, Array.size_replicate]) j (by rw [hF.size]; omega))
  clear hsl hfmt hH0 hal
  go_enter Tryd.func54, Tryd.ntmps54
  have hsl := HSL.out
  go_wp2_with (first
    | (go_at_call 59; refine (Tryd.internal_strconv_numDigits u (by omega) hu64 _ (Lib.tabIs_alloc HT.out _)).mono ?_; rintro e w' ⟨rfl, rfl⟩))
  go_at_call 60
  refine HF.out.mono ?_
  clear HF
  rintro e W2 ⟨rfl, hb, hsz, hcell⟩
  have HB := Lib.hid hb
  have HC := Lib.hid hcell
  have HO2 := Lib.hid (HO.out.below hb)
  clear hb hcell
  go_wp2_with (at_builtin; refine appTL (.tmp 24) (.tmp 26) rfl rfl (by rfl) HO2.out (m := Lib.decDigits u) (b := w.heap.size) (off := 0) (c := 24) (by rw [hnl]; rfl) HC.out (by omega) (by omega) ?_; intro v' w1 h1 h2; have H1 := Lib.hid h1; have H2 := Lib.hid h2; clear h1 h2)
  go_ret
  refine ⟨v', rfl, H1.out, H2.out.os.trans HB.out.os, H2.out.tape.trans HB.out.tape, H2.out.output.trans HB.out.output, Nat.le_trans hsz H2.out.size, fun k hk hne => (H2.out.block k (Nat.lt_of_lt_of_le hk hsz) hne).trans (HB.out.block k hk)⟩

set_option maxRecDepth 100000 in
set_option maxHeartbeats 4000000 in
theorem appInt_any (base u : Nat) (hu64 : u < 9223372036854775808) (v : Value) (l : Bs) (w : World) (ht : Tab w) (hown : OwnT w base v l) (hbase : base ≤ w.heap.size) (hlim : l.length + 20 ≤ 140737488355328) :
    Calls Tryd.prog 30 #[v, .int .i64 u, .int .i64 10] w fun e w' => ∃ v', e = .returned v' ∧ OwnT w' base v' (l ++ Lib.itoa u) ∧ w.grownBy w' v.ownBlock := by
  have HU : Hid (Calls Tryd.prog 54 #[v, .int .u64 u, .int .i64 10] w fun e w' => ∃ v', e = .returned v' ∧ OwnT w' base v' (l ++ Lib.decDigits u) ∧ w.grownBy w' v.ownBlock) := Lib.hid (by
    rcases Nat.lt_or_ge u 100 with h | h
    · exact appUintSmall base u h v l w hown hbase hlim
    · exact appUintBig base u h (by omega) v l w ht hown hbase hlim)
  clear hown ht
  have t0 : decide ((u : Int) < 0) = false := by simp
  have y0 : IntKind.u64.wrap (u : Int) = u := by unfold IntKind.wrap; simp [IntKind.signed, IntKind.bits]; omega
  rw [Lib.itoa_nonneg]
  have HI : Hid (Calls Tryd.prog 48 #[v, .int .i64 u, .int .i64 10] w fun e w' => ∃ v', e = .returned v' ∧ OwnT w' base v' (l ++ Lib.decDigits u) ∧ w.grownBy w' v.ownBlock) := Lib.hid (by
    go_enter Tryd.func48, Tryd.ntmps48
    go_wp2_with (go_at_call 54; refine HU.out.mono ?_; rintro e w' ⟨v', rfl, h1, h2⟩; have H1 := Lib.hid h1; have H2 := Lib.hid h2; clear h1 h2)
    go_ret
    exact ⟨v', rfl, H1.out, H2.out⟩)
  clear HU
  go_enter Tryd.func30, Tryd.ntmps30
  go_wp2_with (go_at_call 48; refine HI.out.mono ?_; rintro e w' ⟨v', rfl, h1, h2⟩; have H1 := Lib.hid h1; have H2 := Lib.hid h2; clear h1 h2)
  go_ret
  exact ⟨v', rfl, H1.out, H2.out⟩
end Go.Proofs.YtmaifldiondchaaDoor
