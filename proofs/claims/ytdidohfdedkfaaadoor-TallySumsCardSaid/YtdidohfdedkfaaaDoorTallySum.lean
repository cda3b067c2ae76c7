/- tally.Sum, tally.Split, and the law's own 'number'. -/
import Derived.Test.YtdidohfdedkfaaaDoorTallyOf
namespace Go.Proofs.YtdidohfdedkfaaaDoor
open Go.RowKit

def cxs (l : List (Nat × Nat)) : List Value := l.map fun p => cx p.1 p.2
def sum1 (l : List (Nat × Nat)) : Nat := (l.map (·.1)).sum
def sum2 (l : List (Nat × Nat)) : Nat := (l.map (·.2)).sum
theorem sum_snoc (l : List (Nat × Nat)) (k : Nat) (h : k < l.length) : sum1 (l.take (k + 1)) = sum1 (l.take k) + l[k].1 ∧ sum2 (l.take (k + 1)) = sum2 (l.take k) + l[k].2 := by
  rw [List.take_succ_eq_append_getElem h]
  simp only [sum1, sum2, List.map_append, List.sum_append, List.map_cons, List.map_nil, List.sum_cons, List.sum_nil, Nat.add_zero, and_self]
theorem sum_take_le (l : List (Nat × Nat)) (k : Nat) : sum1 (l.take k) ≤ sum1 l ∧ sum2 (l.take k) ≤ sum2 l := by
  have key : ∀ m r : List (Nat × Nat), sum1 (m ++ r) = sum1 m + sum1 r ∧ sum2 (m ++ r) = sum2 m + sum2 r := fun m r => by simp [sum1, sum2]
  have h := key (l.take k) (l.drop k)
  rw [List.take_append_drop] at h
  omega

theorem cx_real (ts : Array TypeId) (t : TypeId) (a b : Nat) (w : World) : (Builtin.real_ ts t #[cx a b]).run Tryd.prog w = .ok (.float .f64 (flw a)) w := by unfold cx; rfl
theorem cx_imag (ts : Array TypeId) (t : TypeId) (a b : Nat) (w : World) : (Builtin.imag_ ts t #[cx a b]).run Tryd.prog w = .ok (.float .f64 (flw b)) w := by unfold cx; rfl
theorem cx_complex (ts : Array TypeId) (t : TypeId) (a b : Nat) (w : World) : (Builtin.complex_ ts t #[.float .f64 (flw a), .float .f64 (flw b)]).run Tryd.prog w = .ok (cx a b) w := by unfold cx; exact run_complex w ts t .f64 _ _
theorem fl_int (a : Nat) (h : a < 2 ^ 53) (w : World) : (convert 54 3 (.float .f64 (flw a))).run Tryd.prog w = .ok (.int .i64 a) w := by
  refine run_convert_float_int w 54 3 .f64 .i64 _ _ (by kernel_rfl) Tryd.underlying3 ?_
  unfold floatToIntVal
  rw [show FloatKind.f64.decode (flw a) = Ieee.double.read (flw a) from rfl, toInt_flw a h]
  simp [IntKind.min, IntKind.max, IntKind.signed, IntKind.bits]
  omega
theorem int_fl (a : Nat) (h : a < 2 ^ 53) (w : World) : (convert 3 54 (.int .i64 a)).run Tryd.prog w = .ok (.float .f64 (flw a)) w := by
  rw [run_convert_int_float w 3 54 .i64 .f64 a (by kernel_rfl) Tryd.underlying54]
  rw [floatOfInt, nearest_int a h]

/-- The walk's law for '==' of two tallies that are the same. -/
theorem cEq {ops : Array Oper} {rest : List Oper} {o : Oper} {a : Act} {w : World} {Q : Exit → Act → World → Prop} (t : TypeId) (p q : Operand) (ho : o.op = .binOp .eql t p q t) (hw : Region.wanted o (yielded ops a.tmps) = true)
    {m n m' n' : Nat} (hp : a.eval p = cx m n) (hq : a.eval q = cx m' n') (h1 : m = m') (h2 : n = n') (h3 : m < 2 ^ 53) (h4 : n < 2 ^ 53)
    (h : wpList Tryd.prog ops Q rest (a.put o.dst (.bool true)) w) : wpList Tryd.prog ops Q (o :: rest) a w :=
  wpList_step fun K hK => by
    rw [if_pos hw]
    subst h1 h2
    have hr : (binOp .eql t (cx m n) (cx m n)).run Tryd.prog w = .ok (.bool true) w := by
      unfold cx
      rw [run_eql_complex]
      have e1 : FloatKind.f64.format.order (flw m) (flw m) = some .eq := by
        show Ieee.double.order _ _ = _
        rw [order_flw m m h3 h3, Nat.compare_eq_eq.2 rfl]
      have e2 : FloatKind.f64.format.order (flw n) (flw n) = some .eq := by
        show Ieee.double.order _ _ = _
        rw [order_flw n n h4 h4, Nat.compare_eq_eq.2 rfl]
      rw [e1, e2]; rfl
    have hg : (eqGuard .eql t p q (cx m n) (cx m n)).run Tryd.prog w = .ok () w := by unfold cx; rfl
    unfold Oper.wp execOp
    simp only [ho, hp, hq]
    simp [hg, hr]
    exact hK _ _ h

set_option maxHeartbeats 1000000 in
theorem sum_any (v : Value) (l : List (Nat × Nat)) (w : World) (hs : Sl w v (cxs l)) (h1 : sum1 l < 2 ^ 53) (h2 : sum2 l < 2 ^ 53) (hl : l.length ≤ 1000) :
    Calls Tryd.prog 18 #[v] w fun e w' => e = .returned (cx (sum1 l) (sum2 l)) ∧ w = w' := by
  obtain ⟨A, cap, rfl, hcap, hx⟩ := hs
  rw [show (cxs l).length = l.length from by simp [cxs]] at hcap hx ⊢
  go_enter Tryd.func18, Tryd.ntmps18
  go_wp2
  go_loop [3, 8] (fun m i => ∃ k : Nat, k ≤ l.length ∧ i = .int .i64 k ∧ m = cx (sum1 (l.take k)) (sum2 (l.take k))) (fun _ i => l.length - (intOf i).toNat)
  case atStart => exact ⟨0, Nat.zero_le _, rfl, cx_00⟩
  case round =>
    obtain ⟨k, hk, rfl, rfl⟩ := hrel
    by_cases hlt : k < l.length
    · obtain ⟨b, off, rfl, hc⟩ := hx (by omega)
      have hcell : w.cell? ⟨b, off + k, none⟩ = some (cx l[k].1 l[k].2) := hc k _ (by simp [cxs, hlt])
      have hle := sum_take_le l (k + 1)
      obtain ⟨ea, eo⟩ := sum_snoc l k hlt
      have n1 : sum1 (l.take k) + l[k].1 < 2 ^ 53 := by omega
      have n2 : sum2 (l.take k) + l[k].2 < 2 ^ 53 := by omega
      have N1 := Lib.hid n1
      have N2 := Lib.hid n2
      have EA := Lib.hid ea
      have EO := Lib.hid eo
      clear hx hc ea eo hle n1 n2 h1 h2
      go_wp2_with (refine cAdd 32 (.tmp 12) (.tmp 13) rfl rfl rfl rfl N1.out N2.out ?_)
      exact ⟨⟨k + 1, by omega, by go_num, by rw [EA.out, EO.out]⟩, by simp [intOf]; omega⟩
    · go_wp2
      go_ret
      have : k = l.length := by omega
      subst this
      rw [List.take_length]
      exact ⟨rfl, rfl⟩

set_option maxHeartbeats 400000 in
theorem split_any (a b : Nat) (w : World) (h1 : a < 2 ^ 53) (h2 : b < 2 ^ 53) :
    Calls Tryd.prog 19 #[cx a b] w fun e w' => e = .returned (.tuple #[.int .i64 a, .int .i64 b]) ∧ w = w' := by
  have r1 := cx_real
  have r2 := cx_imag
  have r3 := fl_int a h1
  have r4 := fl_int b h2
  clear h1 h2
  go_enter Tryd.func19, Tryd.ntmps19
  go_wp2
  go_ret2
  exact ⟨rfl, rfl⟩

set_option maxHeartbeats 400000 in
theorem number_any (a b : Nat) (w : World) (h1 : a < 2 ^ 53) (h2 : b < 2 ^ 53) :
    Calls Tryd.prog 13 #[.agg #[.int .i64 a, .int .i64 b]] w fun e w' => e = .returned (cx a b) ∧ Below w.heap.size w w' := by
  have r1 := cx_complex
  have r3 := int_fl a h1
  have r4 := int_fl b h2
  clear h1 h2
  go_enter Tryd.func13, Tryd.ntmps13
  go_wp2
  go_ret
  exact ⟨rfl, (by repeat (first | exact Below.refl _ _ | assumption | refine bdrewN ?_ _ | refine Below.setCell ?_ (by first | exact Nat.le_refl _ | assumption | omega | (simp <;> omega)) _ | refine Below.alloc ?_ (by first | exact Nat.le_refl _ | assumption | omega | (simp <;> omega)) _))⟩
end Go.Proofs.YtdidohfdedkfaaaDoor
