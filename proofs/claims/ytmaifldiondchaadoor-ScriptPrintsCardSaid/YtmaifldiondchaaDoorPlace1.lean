/- fault.Place of an error that is a code or a fault. -/
import Derived.Test.YtmaifldiondchaaDoorErr1
namespace Go.Proofs.YtmaifldiondchaaDoor
open Go.RowKit

set_option maxHeartbeats 400000 in
theorem place_visit_code (p : Value) (b1 b2 : Addr) (w : World) :
    Calls Tryd.prog 42 #[.iface 45 p, .pointer (some b1), .pointer (some b2)] w fun e w' => e = .returned (.bool false) ∧ Below w.heap.size w w' := by
  have h1 := ta_fault_code
  go_enter Tryd.func42, Tryd.ntmps42
  go_wp2
  go_ret
  exact ⟨rfl, (by repeat (first | exact Below.refl _ _ | assumption | refine bdrewN ?_ _ | refine Below.setCell ?_ (by first | exact Nat.le_refl _ | assumption | omega | (simp <;> omega)) _ | refine Below.alloc ?_ (by first | exact Nat.le_refl _ | assumption | omega | (simp <;> omega)) _))⟩
set_option maxHeartbeats 400000 in
theorem place_visit_fault (c a : Int) (B : Nat) (w : World) (x y : Value) (hx : w.cell? ⟨B, 0, none⟩ = some x) (hfx : w.frozen? ⟨B, 0, none⟩ = false)
    (hy : w.cell? ⟨B + 1, 0, none⟩ = some y) (hfy : w.frozen? ⟨B + 1, 0, none⟩ = false) :
    Calls Tryd.prog 42 #[.iface 74 (.agg #[.int .i64 c, .int .i64 a]), .pointer (some ⟨B, 0, none⟩), .pointer (some ⟨B + 1, 0, none⟩)] w
      fun e w' => e = .returned (.bool true) ∧ Below B w w' ∧ w'.cell? ⟨B, 0, none⟩ = some (.int .i64 a) ∧ w'.cell? ⟨B + 1, 0, none⟩ = some (.bool true) := by
  have h1 := ta_fault_fault
  have l1 := cell_lt hx
  have l2 := cell_lt hy
  simp only at l1 l2
  go_enter Tryd.func42, Tryd.ntmps42
  go_wp2
  go_ret
  refine ⟨rfl, ?_, ?_, ?_⟩
  · exact (by repeat (first | exact Below.refl _ _ | assumption | refine bdrewN ?_ _ | refine Below.setCell ?_ (by first | exact Nat.le_refl _ | assumption | omega | (simp <;> omega)) _ | refine Below.alloc ?_ (by first | exact Nat.le_refl _ | assumption | omega | (simp <;> omega)) _))
  · simp [go_sem, hx, World.cell?_setCell_other, World.cell?_alloc_lt, l1]
  · simp [go_sem, hy, World.cell?_setCell_other, World.cell?_alloc_lt, l2]

def PlaceOf (B : Nat) (o : Option Int) (w' : World) : Prop :=
  w'.cell? ⟨B, 0, none⟩ = some (.int .i64 (o.getD 0)) ∧ w'.cell? ⟨B + 1, 0, none⟩ = some (.bool o.isSome)
set_option maxRecDepth 100000 in
set_option maxHeartbeats 400000 in
theorem search_place (W w : World) (c a : Int) (hb : Below W.heap.size W w)
    (hx : w.cell? ⟨W.heap.size, 0, none⟩ = some (.int .i64 0)) (hf : w.frozen? ⟨W.heap.size, 0, none⟩ = false)
    (hy : w.cell? ⟨W.heap.size + 1, 0, none⟩ = some (.bool false)) (hg : w.frozen? ⟨W.heap.size + 1, 0, none⟩ = false) :
    Calls Tryd.prog 41 #[baseVal c (some a), .func (.func 42) #[] #[.pointer (some ⟨W.heap.size, 0, none⟩), .pointer (some ⟨W.heap.size + 1, 0, none⟩)]] w
      fun e w' => e = .returned (.tuple #[]) ∧ Below W.heap.size W w' ∧ PlaceOf W.heap.size (some a) w' := by
  go_enter_defers Tryd.func41, Tryd.ntmps41
  go_wp2_with fail
  go_loopw [0, 6] (fun e i wr => i = .int .i64 0 ∧ e = baseVal c (some a) ∧ Below W.heap.size W wr ∧ wr.cell? ⟨W.heap.size, 0, none⟩ = some (.int .i64 0) ∧ wr.frozen? ⟨W.heap.size, 0, none⟩ = false ∧
      wr.cell? ⟨W.heap.size + 1, 0, none⟩ = some (.bool false) ∧ wr.frozen? ⟨W.heap.size + 1, 0, none⟩ = false) (fun _ _ _ => 0)
  case atStart => exact ⟨rfl, rfl, hb, hx, hf, hy, hg⟩
  case round =>
    obtain ⟨rfl, he, hbr, hxr, hfr, hyr, hgr⟩ := hrel
    have he2 : _ = Value.iface 74 (.agg #[.int .i64 c, .int .i64 a]) := he
    clear he
    subst he2
    go_wp2_with fail
    refine (place_visit_fault c a W.heap.size wr _ _ hxr hfr hyr hgr).mono ?_
    rintro e w1 ⟨rfl, hb1, hc1, hc2⟩
    go_wp2_with fail
    refine leaves_cons (f := 51) (args := #[]) (by simp) (by simp [go_sem]) ?_
    refine (search_idle _).mono ?_
    rintro e u' w'' ⟨rfl, rfl, rfl⟩
    exact ⟨_, results_none rfl _ _ _, rfl, hbr.trans hb1, hc1, hc2⟩
set_option maxHeartbeats 400000 in
theorem place_base (w : World) (c a : Int) :
    Calls Tryd.prog 21 #[baseVal c (some a)] w fun e w' => e = .returned (.tuple #[.int .i64 a, .bool true]) ∧ Below w.heap.size w w' := by
  have hmf := make_fn
  have HS := fun (w1 : World) (hb : Below w.heap.size w w1) h1 h2 h3 h4 => search_place w w1 c a hb h1 h2 h3 h4
  obtain ⟨v, hv⟩ : ∃ v, v = baseVal c (some a) := ⟨_, rfl⟩
  rw [← hv] at HS ⊢
  clear hv
  go_enter Tryd.func21, Tryd.ntmps21
  go_wp2_with fail
  refine (HS ((w.alloc (.cells #[.int .i64 0] 3)).alloc (.cells #[.bool false] 4)) (((Below.refl _ _).alloc (Nat.le_refl _) _).alloc (by simp) _) (by simp [go_sem]) (by simp [go_sem]) (by simp [go_sem]) (by simp [go_sem])).mono ?_
  rintro e w1 ⟨rfl, hb, hc1, hc2⟩
  clear HS
  go_wp2
  go_quiet (fail)
  go_wp2
  go_ret2
  exact ⟨rfl, bdrewN hb _⟩
end Go.Proofs.YtmaifldiondchaaDoor
