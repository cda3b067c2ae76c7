/- The reference's hex and digit; what rows of bytes that the call owns read as. -/
import Derived.Test.YtmaifldiondchaaDoorScrE
import Derived.Test.YtmaifldiondchaaDoorStep
import Derived.BigQuiet
namespace Go.Proofs.YtmaifldiondchaaDoor
open Go.RowKit
set_option linter.unusedSimpArgs false

theorem tByt : SlT Tryd.prog 23 5 1 1 := SlT.mk' Tryd.underlying23 (z := .int .u8 0) (by kernel_rfl) rfl (by decide)
theorem byteCells_one (l : Bs) : ∀ u ∈ Lib.byteCells l, u.oneCell' = true := by
  intro u hu
  simp only [Lib.byteCells, List.mem_map] at hu
  obtain ⟨_, _, rfl⟩ := hu
  rfl
theorem byteCells_append (x y : Bs) : Lib.byteCells (x ++ y) = Lib.byteCells x ++ Lib.byteCells y := by simp [Lib.byteCells]
theorem byteCells_length (x : Bs) : (Lib.byteCells x).length = x.length := by simp [Lib.byteCells]
/-- A row of bytes that the call owns. -/
def OwnB (w : World) (base : Nat) (v : Value) (l : Bs) : Prop := w.ownsRow base 5 1 v l.length (Lib.byteCells l)
theorem OwnB.conv {w : World} {base : Nat} {v : Value} {l : Bs} (h : OwnB w base v l) : (convert 23 9 v).run Tryd.prog w = .ok (.string (SB l)) w := by
  rcases h.2 with ⟨rfl, h0⟩ | ⟨g, cap', cur, rfl, _, hh, _⟩
  · have hL0 : l = [] := List.eq_nil_of_length_eq_zero h0
    rw [run_convert_bytes_nil w 23 5 Tryd.underlying23 Tryd.underlying5 _ _ _ Tryd.underlying9, hL0]
    rfl
  · exact run_convert_bytes_back w 23 9 5 ⟨g, 0, none⟩ cap' l Tryd.underlying23 Tryd.underlying5 Tryd.underlying9 (fun j hj => by
      have := World.ownsRow.cells h (g := g) rfl j (.int .u8 (l[j].toNat : Int)) (by simp [Lib.byteCells, hj])
      exact this)
def digitsS : ByteArray := ⟨#[48, 49, 50, 51, 52, 53, 54, 55, 56, 57, 97, 98, 99, 100, 101, 102]⟩
theorem idx_hex (k : Nat) (hk : k < 16) (kd : IntKind) (w : World) : (Instr.index 9 (.string ⟨#[48, 49, 50, 51, 52, 53, 54, 55, 56, 57, 97, 98, 99, 100, 101, 102]⟩) (.int kd (k : Int))).run Tryd.prog w = .ok (.int .u8 ((hexD k).toNat : Int)) w := by
  have hs : digitsS.size = 16 := by decide
  have hv : ∀ k (h : k < digitsS.size), k < 16 → digitsS[k] = hexD k := by decide
  have := run_index_string (P := Tryd.prog) w 9 digitsS kd (k : Int) Tryd.underlying9
  rw [dif_pos (by rw [hs]; omega)] at this
  simp only [Int.toNat_natCast] at this
  rw [hv k (by rw [hs]; omega) hk] at this
  exact this
theorem hexL_snoc (l : Bs) (k : Nat) (h : k < l.length) : hexL (l.take (k + 1)) = hexL (l.take k) ++ [hexD (l[k].toNat / 16), hexD (l[k].toNat % 16)] := by
  unfold hexL
  rw [List.take_succ_eq_append_getElem h, List.flatMap_append]
  simp
theorem hexL_length (l : Bs) : (hexL l).length = 2 * l.length := by
  induction l with
  | nil => rfl
  | cons b l ih =>
    show (hexD _ :: hexD _ :: hexL l).length = _
    simp only [List.length_cons, ih]
    omega

set_option maxRecDepth 100000 in
set_option maxHeartbeats 4000000 in
theorem hex_any (l : Bs) (A : Option Addr) (cap : Nat) (w : World) (hs : Sn w 1 (.slice A l.length cap) l.length (Lib.byteCells l)) (hm : l.length ≤ 1000000) :
    Calls Tryd.prog 32 #[.slice A l.length cap] w fun e w' => e = .returned (.string (SB (hexL l))) ∧ Below w.heap.size w w' := by
  have HS := Lib.hid hs
  clear hs
  go_enter Tryd.func32, Tryd.ntmps32
  go_wp2_with fail
  go_loopw [4, 5] (fun m i wr => ∃ k : Nat, k ≤ l.length ∧ i = .int .i64 k ∧ Hid (OwnB wr w.heap.size m (hexL (l.take k))) ∧ Hid (Below w.heap.size w wr)) (fun _ i _ => l.length - (intOf i).toNat)
  case atStart => exact ⟨0, Nat.zero_le _, rfl, Lib.hid (World.ownsRow_nil _ _ _ _), Lib.hid (Below.refl _ _)⟩
  case round =>
    obtain ⟨k, hk, rfl, HO, HB⟩ := hrel
    have hszr := HB.out.size
    rcases Nat.lt_or_ge k l.length with hlt | hge
    · obtain ⟨b, off, eA, c00⟩ := at_byte HS.out k hlt
      subst eA
      have HBLT := Lib.hid (cell_lt c00)
      have c0 := Below.cell' HB.out c00
      clear c00
      have hlen := hexL_length (l.take k)
      rw [List.length_take] at hlen
      have HSN := Lib.hid (hexL_snoc l k hlt)
      obtain ⟨z, hz⟩ : ∃ z, z = l[k].toNat := ⟨_, rfl⟩
      rw [← hz] at HSN c0
      have hz255 : z < 256 := by rw [hz]; exact UInt8.toNat_lt _
      obtain ⟨q, hq⟩ : ∃ q, q = z / 16 := ⟨_, rfl⟩
      obtain ⟨r, hr⟩ : ∃ r, r = z % 16 := ⟨_, rfl⟩
      have hx1 := fun w => idx_hex q (by omega) .u8 w
      have hx2 := fun w => idx_hex r (by omega) .u8 w
      rw [← hq, ← hr] at HSN
      have y1 : (z : Int) / 16 = q := by omega
      have y2 : (z : Int).tdiv 16 = q := by rw [Int.tdiv_eq_ediv_of_nonneg (by omega)]; omega
      have y3 : IntKind.u8.wrap (q : Int) = q := by unfold IntKind.wrap; simp [IntKind.signed, IntKind.bits]; omega
      have y4 : (z : Int) % 16 = r := by omega
      have y5 : (z : Int).tmod 16 = r := by rw [Int.tmod_eq_emod_of_nonneg (by omega)]; omega
      have y6 : IntKind.u8.wrap (r : Int) = r := by unfold IntKind.wrap; simp [IntKind.signed, IntKind.bits]; omega
      obtain ⟨L, hL⟩ : ∃ L, L = hexL (l.take k) := ⟨_, rfl⟩
      rw [← hL] at HSN hlen HO
      clear hz hL
      obtain ⟨x1, hx1e⟩ : ∃ x, x = hexD q := ⟨_, rfl⟩
      obtain ⟨x2, hx2e⟩ : ∃ x, x = hexD r := ⟨_, rfl⟩
      rw [← hx1e] at hx1 HSN
      rw [← hx2e] at hx2 HSN
      clear hx1e hx2e hq hr
      have hi0 : (0 : Int) ≤ k := by omega
      have hi1 : (k : Int) < l.length := by omega
      have hown := HO.out
      unfold OwnB at hown
      have hnb : some b ≠ Value.ownBlock _ := fun e => by
        have h1 := (hown.lt b e.symm).1
        have h2 : b < w.heap.size := HBLT.out
        omega
      go_wp2_with fail
      go_region_held3 (fun w' => w'.cell? ⟨b, off + k, none⟩ = some (.int .u8 z))
        (first | go_keep | (refine hgrow.cell (by assumption) hnb))
        ((refine stepApp tByt _ _ (by rfl) (by rfl) (by rfl) ((hown.alloc _).drew) (by rfl) (Sn.new wr (Lib.byteCells [x1, x2]).toArray _ 1 2 rfl) (byteCells_one _) (by unfold maxLen; omega) (by omega) (by simp; omega) ?_; intro v' w1 hown1 hgrow _))
      all_goals
        have hb1 := ((HB.out.alloc hszr _).drew).grown hgrow (by simp; omega) (fun g hg => (hown.lt g hg).1)
        rw [List.toList_toArray, ← byteCells_append, ← HSN.out] at hown1
        have HO1 := Lib.hid hown1
        have HB1 := Lib.hid hb1
        clear hgrow hown hown1 hb1
        go_wp2
        exact ⟨⟨k + 1, by omega, by go_num, Lib.hid (by unfold OwnB; rw [show (hexL (l.take (k + 1))).length = L.length + 2 by rw [HSN.out, List.length_append]; rfl]; exact HO1.out), HB1⟩, by simp [intOf]; omega⟩
    · obtain rfl : k = l.length := by omega
      have hO := HO.out
      rw [List.take_length] at hO
      have hcv := hO.conv
      clear hO
      go_wp2_with fail
      go_ret
      exact ⟨rfl, HB.out⟩

set_option maxRecDepth 100000 in
theorem digit_any (z : Nat) (hz : z < 256) (w : World) :
    Calls Tryd.prog 27 #[.int .u8 (z : Int)] w fun e w' => e = .returned (.int .i64 (digV (UInt8.ofNat z) : Nat)) ∧ w' = w := by
  have HV : Hid (digV (UInt8.ofNat z) = if 48 ≤ z ∧ z ≤ 57 then z - 48 else if 97 ≤ z ∧ z ≤ 102 then z - 87 else 99) := Lib.hid (by unfold digV; rw [ofNat_toNat hz])
  have y1 : IntKind.u8.wrap ((z : Int) - 48) = if 48 ≤ z then (z : Int) - 48 else IntKind.u8.wrap ((z : Int) - 48) := by
    split
    · unfold IntKind.wrap; simp [IntKind.signed, IntKind.bits]; omega
    · rfl
  rcases Nat.lt_or_ge z 48 with h1 | h1
  · have t1 : decide ((48 : Int) ≤ z) = false := by simp; omega
    have t2 : decide ((97 : Int) ≤ z) = false := by simp; omega
    have HF : Hid (digV (UInt8.ofNat z) = 99) := Lib.hid (by rw [HV.out, if_neg (by omega), if_neg (by omega)])
    clear y1 h1 hz
    go_enter Tryd.func27, Tryd.ntmps27
    go_wp2_with fail
    go_ret
    exact ⟨by rw [HF.out]; rfl, rfl⟩
  rw [if_pos h1] at y1
  rcases Nat.lt_or_ge 57 z with h2 | h2
  · have t1 : decide ((48 : Int) ≤ z) = true := by simp; omega
    have t3 : decide ((z : Int) ≤ 57) = false := by simp; omega
    rcases Nat.lt_or_ge z 97 with h3 | h3
    · have t2 : decide ((97 : Int) ≤ z) = false := by simp; omega
      have HF : Hid (digV (UInt8.ofNat z) = 99) := Lib.hid (by rw [HV.out, if_neg (by omega), if_neg (by omega)])
      clear y1 h1 h2 h3 hz
      go_enter Tryd.func27, Tryd.ntmps27
      go_wp2_with fail
      go_ret
      exact ⟨by rw [HF.out]; rfl, rfl⟩
    have t2 : decide ((97 : Int) ≤ z) = true := by simp; omega
    rcases Nat.lt_or_ge 102 z with h4 | h4
    · have t4 : decide ((z : Int) ≤ 102) = false := by simp; omega
      have HF : Hid (digV (UInt8.ofNat z) = 99) := Lib.hid (by rw [HV.out, if_neg (by omega), if_neg (by omega)])
      clear y1 h1 h2 h3 h4 hz
      go_enter Tryd.func27, Tryd.ntmps27
      go_wp2_with fail
      go_ret
      exact ⟨by rw [HF.out]; rfl, rfl⟩
    · have t4 : decide ((z : Int) ≤ 102) = true := by simp; omega
      have y2 : IntKind.u8.wrap ((z : Int) - 97) = (z : Int) - 97 := by unfold IntKind.wrap; simp [IntKind.signed, IntKind.bits]; omega
      have y3 : IntKind.i64.wrap ((z : Int) - 97) = (z : Int) - 97 := IntWalk.i64_in _ (by omega)
      have y4 : IntKind.i64.wrap ((z : Int) - 97 + 10) = (z : Int) - 97 + 10 := IntWalk.i64_in _ (by omega)
      have HF : Hid ((digV (UInt8.ofNat z) : Int) = (z : Int) - 97 + 10) := Lib.hid (by rw [HV.out, if_neg (by omega), if_pos (by omega)]; omega)
      go_enter Tryd.func27, Tryd.ntmps27
      go_wp2_with fail
      go_ret
      exact ⟨by rw [HF.out]; rfl, rfl⟩
  · have t1 : decide ((48 : Int) ≤ z) = true := by simp; omega
    have t3 : decide ((z : Int) ≤ 57) = true := by simp; omega
    have y3 : IntKind.i64.wrap ((z : Int) - 48) = (z : Int) - 48 := IntWalk.i64_in _ (by omega)
    have HF : Hid ((digV (UInt8.ofNat z) : Int) = (z : Int) - 48) := Lib.hid (by rw [HV.out, if_pos (by omega)]; omega)
    go_enter Tryd.func27, Tryd.ntmps27
    go_wp2_with fail
    go_ret
    exact ⟨by rw [HF.out]; rfl, rfl⟩
end Go.Proofs.YtmaifldiondchaaDoor
