/- fault.Place of a chain: the place of its fault, or none. -/
import Derived.Test.YtlbijlonpcgccaaErrs
import Derived.Deep.QuietTactic
import Derived.BigQuiet
namespace Go.Proofs.Ytlbijlonpcgccaa
open Go.RowKit

set_option maxHeartbeats 400000 in
theorem place_visit_inside (p : Value) (b1 b2 : Addr) (w : World) :
    Calls Try.prog 26 #[.iface 60 p, .pointer (some b1), .pointer (some b2)] w fun e w' => e = .returned (.bool false) ∧ Below w.heap.size w w' := by
  have h1 := ta_fault_inside
  go_enter Try.func26, Try.ntmps26
  go_wp2
  go_ret
  exact ⟨rfl, (by repeat (first | exact Below.refl _ _ | assumption | refine bdrewN ?_ _ | refine Below.setCell ?_ (by first | exact Nat.le_refl _ | assumption | omega | (simp <;> omega)) _ | refine Below.alloc ?_ (by first | exact Nat.le_refl _ | assumption | omega | (simp <;> omega)) _))⟩
set_option maxHeartbeats 400000 in
theorem place_visit_code (p : Value) (b1 b2 : Addr) (w : World) :
    Calls Try.prog 26 #[.iface 32 p, .pointer (some b1), .pointer (some b2)] w fun e w' => e = .returned (.bool false) ∧ Below w.heap.size w w' := by
  have h1 := ta_fault_code
  go_enter Try.func26, Try.ntmps26
  go_wp2
  go_ret
  exact ⟨rfl, (by repeat (first | exact Below.refl _ _ | assumption | refine bdrewN ?_ _ | refine Below.setCell ?_ (by first | exact Nat.le_refl _ | assumption | omega | (simp <;> omega)) _ | refine Below.alloc ?_ (by first | exact Nat.le_refl _ | assumption | omega | (simp <;> omega)) _))⟩
set_option maxHeartbeats 400000 in
theorem place_visit_fault (c a : Int) (B : Nat) (w : World) (x y : Value) (hx : w.cell? ⟨B, 0, none⟩ = some x) (hfx : w.frozen? ⟨B, 0, none⟩ = false)
    (hy : w.cell? ⟨B + 1, 0, none⟩ = some y) (hfy : w.frozen? ⟨B + 1, 0, none⟩ = false) :
    Calls Try.prog 26 #[.iface 54 (.agg #[.int .i64 c, .int .i64 a]), .pointer (some ⟨B, 0, none⟩), .pointer (some ⟨B + 1, 0, none⟩)] w
      fun e w' => e = .returned (.bool true) ∧ Below B w w' ∧ w'.cell? ⟨B, 0, none⟩ = some (.int .i64 a) ∧ w'.cell? ⟨B + 1, 0, none⟩ = some (.bool true) := by
  have h1 := ta_fault_fault
  have l1 := cell_lt hx
  have l2 := cell_lt hy
  simp only at l1 l2
  go_enter Try.func26, Try.ntmps26
  go_wp2
  go_ret
  refine ⟨rfl, ?_, ?_, ?_⟩
  · exact (by repeat (first | exact Below.refl _ _ | assumption | refine bdrewN ?_ _ | refine Below.setCell ?_ (by first | exact Nat.le_refl _ | assumption | omega | (simp <;> omega)) _ | refine Below.alloc ?_ (by first | exact Nat.le_refl _ | assumption | omega | (simp <;> omega)) _))
  · simp [go_sem, hx, World.cell?_setCell_other, World.cell?_alloc_lt, l1]
  · simp [go_sem, hy, World.cell?_setCell_other, World.cell?_alloc_lt, l2]

def PlaceOf (B : Nat) (o : Option Int) (w' : World) : Prop :=
  w'.cell? ⟨B, 0, none⟩ = some (.int .i64 (o.getD 0)) ∧ w'.cell? ⟨B + 1, 0, none⟩ = some (.bool o.isSome)

set_option maxRecDepth 100000 in
set_option maxHeartbeats 400000 in
theorem search_place (v : Value) (W w : World) (c : Int) (o : Option Int) (ps : List ByteArray) (h : IsErr W c o ps v) (hl : ps.length ≤ 60000) (hb : Below W.heap.size W w)
    (hx : w.cell? ⟨W.heap.size, 0, none⟩ = some (.int .i64 0)) (hf : w.frozen? ⟨W.heap.size, 0, none⟩ = false)
    (hy : w.cell? ⟨W.heap.size + 1, 0, none⟩ = some (.bool false)) (hg : w.frozen? ⟨W.heap.size + 1, 0, none⟩ = false) :
    Calls Try.prog 25 #[v, .func (.func 26) #[] #[.pointer (some ⟨W.heap.size, 0, none⟩), .pointer (some ⟨W.heap.size + 1, 0, none⟩)]] w
      fun e w' => e = .returned (.tuple #[]) ∧ Below W.heap.size W w' ∧ PlaceOf W.heap.size o w' := by
  go_enter_defers Try.func25, Try.ntmps25
  go_wp2_with fail
  go_loopw [0, 6] (fun e i wr => ∃ (k : Nat) (qs : List ByteArray), k + qs.length ≤ 60000 ∧ i = .int .i64 k ∧ Below W.heap.size W wr ∧ wr.cell? ⟨W.heap.size, 0, none⟩ = some (.int .i64 0) ∧ wr.frozen? ⟨W.heap.size, 0, none⟩ = false ∧
      wr.cell? ⟨W.heap.size + 1, 0, none⟩ = some (.bool false) ∧ wr.frozen? ⟨W.heap.size + 1, 0, none⟩ = false ∧ IsErr W c o qs e) (fun _ i _ => 65536 - (intOf i).toNat)
  case atStart => exact ⟨0, ps, by omega, rfl, hb, hx, hf, hy, hg, h⟩
  case round =>
    obtain ⟨k, qs, hk, rfl, hbr, hxr, hfr, hyr, hgr, he⟩ := hrel
    have h1 := ta_unwrap_inside
    have h2 := ta_unwrap_fault
    have h3 := ta_unwrap_code
    have h4 := m_unwrap_inside
    have h5 := m_unwrap_fault
    have hlt : decide ((k : Int) < 65536) = true := by simp; omega
    have l1 := cell_lt hxr
    have l2 := cell_lt hyr
    simp only at l1 l2
    rcases (show (qs = [] ∧ o = none ∧ _ = Value.iface 32 (.int .i64 c)) ∨ (∃ a, qs = [] ∧ o = some a ∧ _ = Value.iface 54 (.agg #[.int .i64 c, .int .i64 a])) ∨ (∃ q ps', qs = q :: ps' ∧ k + 1 + ps'.length ≤ 60000 ∧ IsErr W c o (q :: ps') _) from by
      cases qs with
      | nil => cases o with
        | none => exact .inl ⟨rfl, rfl, he⟩
        | some a => exact .inr (.inl ⟨a, rfl, rfl, he⟩)
      | cons q qs => exact .inr (.inr ⟨q, qs, rfl, by simp at hk; omega, he⟩)) with ⟨rfl, rfl, rfl⟩ | ⟨a, rfl, rfl, rfl⟩ | ⟨q, ps', rfl, hk3, b, u', rfl, hc0, hc1, hr⟩
    · clear he h
      go_wp2_with fail
      refine (place_visit_code _ _ _ wr).mono ?_
      rintro e w1 ⟨rfl, hb1⟩
      go_wp2_with fail
      refine leaves_cons (f := 31) (args := #[]) (by simp) (by simp [go_sem]) ?_
      refine (search_idle _).mono ?_
      rintro e u' w'' ⟨rfl, rfl, rfl⟩
      exact ⟨_, results_none rfl _ _ _, rfl, hbr.trans (hb1.mono (by omega)), Below.cell' hb1 hxr, Below.cell' hb1 hyr⟩
    · clear he h
      go_wp2_with fail
      refine (place_visit_fault c a W.heap.size wr _ _ hxr hfr hyr hgr).mono ?_
      rintro e w1 ⟨rfl, hb1, hc1, hc2⟩
      go_wp2_with fail
      refine leaves_cons (f := 31) (args := #[]) (by simp) (by simp [go_sem]) ?_
      refine (search_idle _).mono ?_
      rintro e u' w'' ⟨rfl, rfl, rfl⟩
      exact ⟨_, results_none rfl _ _ _, rfl, hbr.trans hb1, hc1, hc2⟩
    · have hc1' := Below.cell' hbr hc1
      have l3 := cell_lt hc1'
      simp only at l3
      clear he
      go_wp2_with fail
      refine (place_visit_inside (.pointer (some ⟨b, 0, none⟩)) _ _ wr).mono ?_
      rintro e w1 ⟨rfl, hb1⟩
      have hc1'' := Below.cell' hb1 hc1'
      go_wp2_with fail
      refine (unwrap_inside b u' w1 hc1'').mono ?_
      rintro e w' ⟨rfl, rfl⟩
      go_wp2_with fail
      exact ⟨⟨k + 1, ps', by omega, by go_num, hbr.trans (hb1.mono (by omega)), Below.cell' hb1 hxr, (hb1.frozen l1).trans hfr, Below.cell' hb1 hyr, (hb1.frozen l2).trans hgr, hr⟩, by simp [intOf]; omega⟩

set_option maxHeartbeats 400000 in
theorem place_any (v : Value) (w : World) (c : Int) (o : Option Int) (ps : List ByteArray) (h : IsErr w c o ps v) (hl : ps.length ≤ 60000) :
    Calls Try.prog 11 #[v] w fun e w' => e = .returned (.tuple #[.int .i64 (o.getD 0), .bool o.isSome]) ∧ Below w.heap.size w w' := by
  have hmf := make_fn
  go_enter Try.func11, Try.ntmps11
  go_wp2_with fail
  refine (search_place v w ((w.alloc (.cells #[.int .i64 0] 3)).alloc (.cells #[.bool false] 4)) c o ps h hl (((Below.refl _ _).alloc (Nat.le_refl _) _).alloc (by simp) _) (by simp [go_sem]) (by simp [go_sem]) (by simp [go_sem]) (by simp [go_sem])).mono ?_
  rintro e w1 ⟨rfl, hb, hc1, hc2⟩
  go_wp2
  go_quiet (fail)
  go_wp2
  go_ret2
  exact ⟨rfl, bdrewN hb _⟩
end Go.Proofs.Ytlbijlonpcgccaa
