/- Equality of rows of ints and of bytes; tolllaw24.few. -/
import Derived.Test.YtmaifldiondchaaDoorScrB
import Derived.Test.YtmaifldiondchaaDoorShelf
import Derived.Deep.QuietTactic
namespace Go.Proofs.YtmaifldiondchaaDoor
open Go.RowKit
set_option linter.unusedSimpArgs false

theorem list_eq_step {α : Type} (l m : List α) (hlen : l.length = m.length) (k : Nat) (h : k < l.length) (hp : l.take k = m.take k) (he : l[k] = m[k]'(hlen ▸ h)) : l.take (k + 1) = m.take (k + 1) := by
  rw [List.take_succ_eq_append_getElem h, List.take_succ_eq_append_getElem (hlen ▸ h), hp, he]
theorem drewN_add (w : World) (a b : Nat) : (w.drewN a).drewN b = w.drewN (a + b) := by simp [World.drewN, Nat.add_assoc]
theorem at_byte {w : World} {A : Option Addr} {cap : Nat} {c : Bs} (h : Sn w 1 (.slice A c.length cap) c.length (Lib.byteCells c)) (k : Nat) (hk : k < c.length) :
    ∃ b off, A = some ⟨b, off, none⟩ ∧ w.cell? ⟨b, off + k, none⟩ = some (.int .u8 (c[k].toNat : Int)) := by
  obtain ⟨A', cap', hv, _, _, hx⟩ := h
  injection hv with hA _ _
  subst hA
  obtain ⟨b, off, rfl, hc⟩ := hx (by omega)
  exact ⟨b, off, rfl, hc k _ (by simp [Lib.byteCells, hk])⟩

set_option maxRecDepth 100000 in
set_option maxHeartbeats 4000000 in
theorem intsEq_any (l m : List Int) (A B : Option Addr) (ca cb : Nat) (w : World) (hs : Sn w 1 (.slice A l.length ca) l.length (intC l)) (ht : Sn w 1 (.slice B m.length cb) m.length (intC m)) (hl : l.length ≤ 9223372036854775807) :
    Calls Tryd.prog 40 #[.slice A l.length ca, .slice B m.length cb] w fun e w' => e = .returned (.bool (decide (l = m))) ∧ ∃ d, w' = w.drewN d := by
  have HS := Lib.hid hs
  have HT := Lib.hid ht
  clear hs ht
  by_cases hlen : l.length = m.length
  · have t0 : ((l.length : Int) != (m.length : Int)) = false := by rw [hlen]; exact bne_self_eq_false _
    have HLEN := Lib.hid hlen
    clear hlen
    go_enter Tryd.func40, Tryd.ntmps40
    go_wp2_with fail
    go_loopw [13] (fun i wr => ∃ k : Nat, k ≤ l.length ∧ i = .int .i64 k ∧ Hid (l.take k = m.take k) ∧ Hid (∃ d, wr = w.drewN d)) (fun i _ => l.length - (intOf i).toNat)
    case atStart => exact ⟨0, Nat.zero_le _, rfl, Lib.hid rfl, Lib.hid ⟨0, rfl⟩⟩
    case round =>
      obtain ⟨k, hk, rfl, HE, HD⟩ := hrel
      obtain ⟨d, hd⟩ := HD.out
      rcases Nat.lt_or_ge k l.length with hlt | hge
      · have hlt' : k < m.length := HLEN.out ▸ hlt
        obtain ⟨b, off, eA, c0⟩ := at_int HS.out k hlt
        obtain ⟨b', off', eB, d0⟩ := at_int HT.out k hlt'
        subst eA eB
        replace c0 : wr.cell? ⟨b, off + k, none⟩ = some (.int .i64 l[k]) := by rw [hd]; exact c0
        replace d0 : wr.cell? ⟨b', off' + k, none⟩ = some (.int .i64 m[k]) := by rw [hd]; exact d0
        have hi0 : (0 : Int) ≤ k := by omega
        have hi1 : (k : Int) < l.length := by omega
        have hi2 : (k : Int) < m.length := by omega
        have HD2 := Lib.hid hd
        clear hd
        have HST := Lib.hid (list_eq_step l m HLEN.out k hlt HE.out)
        obtain ⟨x, hx⟩ : ∃ x, x = l[k] := ⟨_, rfl⟩
        obtain ⟨y, hy⟩ : ∃ y, y = m[k] := ⟨_, rfl⟩
        rw [← hx] at c0 HST
        rw [← hy] at d0 HST
        have HX := Lib.hid hx
        have HY := Lib.hid hy
        clear hx hy
        obtain ⟨p, hp⟩ : ∃ p, p = x := ⟨_, rfl⟩
        obtain ⟨q, hq⟩ : ∃ q, q = y := ⟨_, rfl⟩
        rw [← hp] at c0
        rw [← hq] at d0
        have HP := Lib.hid hp
        have HQ := Lib.hid hq
        clear hp hq
        rcases Bool.eq_false_or_eq_true (p != q) with e1 | e1
        · have HXY : Hid (x ≠ y) := Lib.hid (by
            intro e
            have : p = q := by rw [HP.out, HQ.out, e]
            rw [this] at e1
            simp at e1)
          go_wp2_with fail
          go_quiet (fail)
          go_wp2_with fail
          go_ret
          refine ⟨?_, d + nq, by rw [HD2.out]; exact drewN_add _ _ _⟩
          rw [decide_eq_false (fun e => HXY.out (by rw [HX.out, HY.out]; simp [e]))]
          rfl
        · have HXY : Hid (x = y) := Lib.hid (by
            have h1 : p = q := by simpa using e1
            rw [HP.out, HQ.out] at h1
            exact h1)
          go_wp2_with fail
          go_quiet (fail)
          go_wp2_with fail
          exact ⟨⟨k + 1, by omega, by go_num, Lib.hid (HST.out HXY.out), Lib.hid ⟨d + nq, by rw [HD2.out]; exact drewN_add _ _ _⟩⟩, by simp [intOf]; omega⟩
      · obtain rfl : k = l.length := by omega
        have hfe : l = m := by
          have := HE.out
          rw [List.take_length, HLEN.out, List.take_length] at this
          exact this
        have HF := Lib.hid hfe
        have HD2 := Lib.hid hd
        clear hfe
        clear hd
        go_wp2_with fail
        go_ret
        exact ⟨by rw [decide_eq_true HF.out]; rfl, d, HD2.out⟩
  · have t0 : ((l.length : Int) != (m.length : Int)) = true := by simp; omega
    go_enter Tryd.func40, Tryd.ntmps40
    go_wp2_with fail
    go_ret
    exact ⟨by rw [decide_eq_false (fun e => hlen (by rw [e]))]; rfl, 0, rfl⟩

set_option maxRecDepth 100000 in
set_option maxHeartbeats 4000000 in
theorem refEqB_any (l m : List UInt8) (A B : Option Addr) (ca cb : Nat) (w : World) (hs : Sn w 1 (.slice A l.length ca) l.length (Lib.byteCells l)) (ht : Sn w 1 (.slice B m.length cb) m.length (Lib.byteCells m)) (hl : l.length ≤ 9223372036854775807) :
    Calls Tryd.prog 28 #[.slice A l.length ca, .slice B m.length cb] w fun e w' => e = .returned (.bool (decide (l = m))) ∧ ∃ d, w' = w.drewN d := by
  have HS := Lib.hid hs
  have HT := Lib.hid ht
  clear hs ht
  by_cases hlen : l.length = m.length
  · have t0 : ((l.length : Int) != (m.length : Int)) = false := by rw [hlen]; exact bne_self_eq_false _
    have HLEN := Lib.hid hlen
    clear hlen
    go_enter Tryd.func28, Tryd.ntmps28
    go_wp2_with fail
    go_loopw [5] (fun i wr => ∃ k : Nat, k ≤ l.length ∧ i = .int .i64 k ∧ Hid (l.take k = m.take k) ∧ Hid (∃ d, wr = w.drewN d)) (fun i _ => l.length - (intOf i).toNat)
    case atStart => exact ⟨0, Nat.zero_le _, rfl, Lib.hid rfl, Lib.hid ⟨0, rfl⟩⟩
    case round =>
      obtain ⟨k, hk, rfl, HE, HD⟩ := hrel
      obtain ⟨d, hd⟩ := HD.out
      rcases Nat.lt_or_ge k l.length with hlt | hge
      · have hlt' : k < m.length := HLEN.out ▸ hlt
        obtain ⟨b, off, eA, c0⟩ := at_byte HS.out k hlt
        obtain ⟨b', off', eB, d0⟩ := at_byte HT.out k hlt'
        subst eA eB
        replace c0 : wr.cell? ⟨b, off + k, none⟩ = some (.int .u8 (l[k].toNat : Int)) := by rw [hd]; exact c0
        replace d0 : wr.cell? ⟨b', off' + k, none⟩ = some (.int .u8 (m[k].toNat : Int)) := by rw [hd]; exact d0
        have hi0 : (0 : Int) ≤ k := by omega
        have hi1 : (k : Int) < l.length := by omega
        have hi2 : (k : Int) < m.length := by omega
        have HD2 := Lib.hid hd
        clear hd
        have HST := Lib.hid (list_eq_step l m HLEN.out k hlt HE.out)
        obtain ⟨x, hx⟩ : ∃ x, x = l[k] := ⟨_, rfl⟩
        obtain ⟨y, hy⟩ : ∃ y, y = m[k] := ⟨_, rfl⟩
        rw [← hx] at c0 HST
        rw [← hy] at d0 HST
        have HX := Lib.hid hx
        have HY := Lib.hid hy
        clear hx hy
        obtain ⟨p, hp⟩ : ∃ p, p = (x.toNat : Int) := ⟨_, rfl⟩
        obtain ⟨q, hq⟩ : ∃ q, q = (y.toNat : Int) := ⟨_, rfl⟩
        rw [← hp] at c0
        rw [← hq] at d0
        have HP := Lib.hid hp
        have HQ := Lib.hid hq
        clear hp hq
        rcases Bool.eq_false_or_eq_true (p != q) with e1 | e1
        · have HXY : Hid (x ≠ y) := Lib.hid (by
            intro e
            have : p = q := by rw [HP.out, HQ.out, e]
            rw [this] at e1
            simp at e1)
          go_wp2_with fail
          go_quiet (fail)
          go_wp2_with fail
          go_ret
          refine ⟨?_, d + nq, by rw [HD2.out]; exact drewN_add _ _ _⟩
          rw [decide_eq_false (fun e => HXY.out (by rw [HX.out, HY.out]; simp [e]))]
          rfl
        · have HXY : Hid (x = y) := Lib.hid (by
            have h1 : p = q := by simpa using e1
            rw [HP.out, HQ.out] at h1
            exact UInt8.toNat_inj.1 (by omega))
          go_wp2_with fail
          go_quiet (fail)
          go_wp2_with fail
          exact ⟨⟨k + 1, by omega, by go_num, Lib.hid (HST.out HXY.out), Lib.hid ⟨d + nq, by rw [HD2.out]; exact drewN_add _ _ _⟩⟩, by simp [intOf]; omega⟩
      · obtain rfl : k = l.length := by omega
        have hfe : l = m := by
          have := HE.out
          rw [List.take_length, HLEN.out, List.take_length] at this
          exact this
        have HF := Lib.hid hfe
        have HD2 := Lib.hid hd
        clear hfe
        clear hd
        go_wp2_with fail
        go_ret
        exact ⟨by rw [decide_eq_true HF.out]; rfl, d, HD2.out⟩
  · have t0 : ((l.length : Int) != (m.length : Int)) = true := by simp; omega
    go_enter Tryd.func28, Tryd.ntmps28
    go_wp2_with fail
    go_ret
    exact ⟨by rw [decide_eq_false (fun e => hlen (by rw [e]))]; rfl, 0, rfl⟩

theorem bytesOf_back (l : Bs) : Lib.bytesOf (l.map fun b => (b.toNat : Int)) = l := by
  unfold Lib.bytesOf
  rw [List.map_map]
  conv => rhs; rw [← List.map_id l]
  apply List.map_congr_left
  intro b _
  simp
theorem bytesEq_any (l m : Bs) (A B : Option Addr) (ca cb : Nat) (w : World) (hs : Sn w 1 (.slice A l.length ca) l.length (Lib.byteCells l)) (ht : Sn w 1 (.slice B m.length cb) m.length (Lib.byteCells m)) :
    Calls Tryd.prog 39 #[.slice A l.length ca, .slice B m.length cb] w fun e w' => e = .returned (.bool (decide (l = m))) ∧ w' = w := by
  have key : ∀ (A : Option Addr) (cap : Nat) (l : Bs), Sn w 1 (.slice A l.length cap) l.length (Lib.byteCells l) → Lib.BytesIn w A l.length (l.map fun b => (b.toNat : Int)) := by
    intro A cap l h
    obtain ⟨A', cap', hv, _, _, hx⟩ := h
    injection hv with hA _ _
    subst hA
    intro hp
    obtain ⟨b, off, rfl, hc⟩ := hx hp
    refine ⟨b, off, rfl, fun j hj => hc j _ ?_⟩
    simp [Lib.byteCells, hj, List.getD_eq_getElem?_getD]
  refine (Tryd.bytes_Equal_all A B l.length ca m.length cb _ _ w (by simp) (by simp) (key _ _ _ hs) (key _ _ _ ht)).mono ?_
  rintro e w' ⟨rfl, rfl⟩
  rw [bytesOf_back, bytesOf_back]
  refine ⟨?_, rfl⟩
  congr 2
  by_cases h : l = m <;> simp [h]

def fewB (d : Bs) (c : List Int) : Bool := decide (d.length ≤ 500) && decide (c.length ≤ 50)
set_option maxRecDepth 100000 in
theorem few_any (k n : Int) (d : Bs) (c : List Int) (A B : Option Addr) (ca cb : Nat) (w : World) (hcm : c.length ≤ 9223372036854775807) (hdm : d.length ≤ 9223372036854775807) :
    Calls Tryd.prog 13 #[.agg #[.int .i64 k, .int .i64 n, .slice A d.length ca, .slice B c.length cb]] w fun e w' => e = .returned (.bool (fewB d c)) ∧ Below w.heap.size w w' := by
  rcases Bool.eq_false_or_eq_true (decide ((d.length : Int) ≤ 500)) with t | t
  all_goals
    have HV : Hid (decide (d.length ≤ 500) = decide ((d.length : Int) ≤ 500)) := Lib.hid (by simp; omega)
    have HC : Hid (decide (c.length ≤ 50) = decide ((c.length : Int) ≤ 50)) := Lib.hid (by simp; omega)
    rw [t] at HV
    go_enter Tryd.func13, Tryd.ntmps13
    go_wp2_with fail
    go_ret
    refine ⟨?_, bel1 _ _⟩
    unfold fewB
    rw [HV.out, HC.out]
    rfl
end Go.Proofs.YtmaifldiondchaaDoor
