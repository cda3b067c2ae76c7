/- Errors that are a code or a fault, not wrapped: fault.Code and fault.Place of them. -/
import Derived.Test.YtmaifldiondchaaDoorWords
import Derived.Defers
import Derived.Recover
import Derived.Deep.QuietTactic
import Derived.BigQuiet
namespace Go.Proofs.YtmaifldiondchaaDoor
open Go.RowKit

/-- An error: a code, or a fault with a code and a place. -/
def baseVal (c : Int) : Option Int → Value
  | none => .iface 45 (.int .i64 c)
  | some at_ => .iface 74 (.agg #[.int .i64 c, .int .i64 at_])
theorem ta_code_code (p : Value) (w : World) : (Instr.typeAssert (.iface 45 p) 37 45 true).run Tryd.prog w = .ok (.tuple #[p, .bool true]) w := by kernel_rfl
theorem ta_code_fault (p : Value) (w : World) : (Instr.typeAssert (.iface 74 p) 37 45 true).run Tryd.prog w = .ok (.tuple #[.int .i64 0, .bool false]) w := by kernel_rfl
theorem ta_fault_code (p : Value) (w : World) : (Instr.typeAssert (.iface 45 p) 37 74 true).run Tryd.prog w = .ok (.tuple #[.agg #[.int .i64 0, .int .i64 0], .bool false]) w := by kernel_rfl
theorem ta_fault_fault (p : Value) (w : World) : (Instr.typeAssert (.iface 74 p) 37 74 true).run Tryd.prog w = .ok (.tuple #[p, .bool true]) w := by kernel_rfl
theorem ta_unwrap_fault (p : Value) (w : World) : (Instr.typeAssert (.iface 74 p) 37 88 true).run Tryd.prog w = .ok (.tuple #[.iface 74 p, .bool true]) w := by kernel_rfl
theorem least_parts (n : String) (f : String → Bool) (g : String → String) : ∃ m, (Instr.least ([n].partition f).2 <|> Instr.least (([n].partition f).1.map g)) = some m := by
  cases hf : f n <;> simp [List.partition, List.partition.loop, hf, Instr.least]
theorem missing_one (want : Array (String × TypeId)) (got : Array Method) (n : String) (h : (want.toList.filter fun (name, sig) => !got.any fun m => m.name == name && m.sig == sig).map (·.1) = [n]) : ∃ m, Instr.missingMethod want got = some m := by
  unfold Instr.missingMethod
  simp only [h]
  exact least_parts n _ _
theorem run_typeAssert_missing {P : Program} (w : World) (t xt a : TypeId) (v z : Value) (want : Array (String × TypeId)) (i : TypeInfo) (n : String) (hu : P.underlying a = some (.interface want)) (hi : P.info? t = some i)
    (h : (want.toList.filter fun (name, sig) => !i.methods.any fun m => m.name == name && m.sig == sig).map (·.1) = [n]) (hz : (zeroValue a).run P w = .ok z w) :
    (Instr.typeAssert (.iface t v) xt a true).run P w = .ok (.tuple #[z, .bool false]) w := by
  obtain ⟨m, hm⟩ := missing_one want i.methods n h
  simp only [Instr.typeAssert]
  simp [run_underlying hu, typeInfo, hi, hm, hz]
theorem ta_unwrap_code (p : Value) (w : World) : (Instr.typeAssert (.iface 45 p) 37 88 true).run Tryd.prog w = .ok (.tuple #[.nilIface, .bool false]) w := by
  have h : (Tryd.prog.info? 45).map (fun i => ((#[("Unwrap", 90)] : Array (String × TypeId)).toList.filter fun (name, sig) => !i.methods.any fun m => m.name == name && m.sig == sig).map (·.1)) = some ["Unwrap"] := by kernel_rfl
  obtain ⟨i, hi, hn⟩ := Option.map_eq_some_iff.1 h
  exact run_typeAssert_missing w 45 37 88 p .nilIface #[("Unwrap", 90)] i "Unwrap" (by kernel_rfl) hi hn (by kernel_rfl)

set_option maxHeartbeats 400000 in
theorem code_visit_code (c : Int) (b : Nat) (w : World) (x : Value) (hx : w.cell? ⟨b, 0, none⟩ = some x) (hf : w.frozen? ⟨b, 0, none⟩ = false) :
    Calls Tryd.prog 43 #[.iface 45 (.int .i64 c), .pointer (some ⟨b, 0, none⟩)] w fun e w' => e = .returned (.bool true) ∧ w.setCell ⟨b, 0, none⟩ (.int .i64 c) = w' := by
  have h1 := ta_code_code
  go_enter Tryd.func43, Tryd.ntmps43
  go_wp2
  go_ret
  exact ⟨rfl, rfl⟩
set_option maxHeartbeats 400000 in
theorem code_visit_fault (p : Value) (b : Nat) (w : World) :
    Calls Tryd.prog 43 #[.iface 74 p, .pointer (some ⟨b, 0, none⟩)] w fun e w' => e = .returned (.bool false) ∧ w = w' := by
  have h1 := ta_code_fault
  go_enter Tryd.func43, Tryd.ntmps43
  go_wp2
  go_ret
  exact ⟨rfl, rfl⟩

theorem m_unwrap_fault (p : Value) (w : World) : (method 227 74 p "Unwrap").run Tryd.prog w = .ok (92, p) w := by kernel_rfl
set_option maxHeartbeats 400000 in
theorem unwrap_fault (c a : Int) (w : World) :
    Calls Tryd.prog 92 #[.agg #[.int .i64 c, .int .i64 a]] w fun e w' => e = .returned (.iface 45 (.int .i64 c)) ∧ Below w.heap.size w w' := by
  go_enter Tryd.func92, Tryd.ntmps92
  go_wp2
  go_ret
  exact ⟨rfl, (Below.refl _ _).alloc (Nat.le_refl _) _⟩

theorem search_idle (w : World) :
    CallsD Tryd.prog 51 #[] .returning w fun e u' w' => e = .returned (.tuple #[]) ∧ u' = .returning ∧ w = w' := by
  refine callsD_of_wpS Tryd.func51 rfl fun c₀ cs hu => ?_
  apply wpS_region
  cases c₀
  simp_all [wpOpsS, go_sem, recoverD, Tryd.ntmps51, bodyPostS, results, Tryd.results51]

set_option maxRecDepth 100000 in
set_option maxHeartbeats 400000 in
theorem search_code (W w : World) (c : Int) (o : Option Int) (hb : Below W.heap.size W w) (x : Value)
    (hx : w.cell? ⟨W.heap.size, 0, none⟩ = some x) (hf : w.frozen? ⟨W.heap.size, 0, none⟩ = false) :
    Calls Tryd.prog 41 #[baseVal c o, .func (.func 43) #[] #[.pointer (some ⟨W.heap.size, 0, none⟩)]] w fun e w' => e = .returned (.tuple #[]) ∧ Below W.heap.size W w' ∧ w'.cell? ⟨W.heap.size, 0, none⟩ = some (.int .i64 c) := by
  go_enter_defers Tryd.func41, Tryd.ntmps41
  go_wp2_with fail
  go_loopw [0, 6] (fun e i wr => ∃ (k : Nat) (u : Value), k ≤ 1 ∧ i = .int .i64 k ∧ Below W.heap.size W wr ∧ wr.cell? ⟨W.heap.size, 0, none⟩ = some u ∧ wr.frozen? ⟨W.heap.size, 0, none⟩ = false ∧ ((k = 0 ∧ e = baseVal c o) ∨ e = .iface 45 (.int .i64 c))) (fun _ i _ => 65536 - (intOf i).toNat)
  case atStart => exact ⟨0, x, by omega, rfl, hb, hx, hf, .inl ⟨rfl, rfl⟩⟩
  case round =>
    obtain ⟨k, u, hk, rfl, hbr, hxr, hfr, he⟩ := hrel
    have h2 := ta_unwrap_fault
    have h3 := ta_unwrap_code
    have h5 := m_unwrap_fault
    have hlt : decide ((k : Int) < 65536) = true := by simp; omega
    rcases (show (_ = Value.iface 45 (.int .i64 c)) ∨ (∃ a, k = 0 ∧ _ = Value.iface 74 (.agg #[.int .i64 c, .int .i64 a])) from by
      rcases he with ⟨h0, he⟩ | he
      · cases o with
        | none => exact .inl he
        | some a => exact .inr ⟨a, h0, he⟩
      · exact .inl he) with rfl | ⟨a, h0, rfl⟩
    · clear he
      go_wp2_with fail
      refine (code_visit_code c W.heap.size wr u hxr hfr).mono ?_
      rintro e w' ⟨rfl, rfl⟩
      go_wp2_with fail
      refine leaves_cons (f := 51) (args := #[]) (by simp) (by simp [go_sem]) ?_
      refine (search_idle _).mono ?_
      rintro e u' w'' ⟨rfl, rfl, rfl⟩
      refine ⟨_, results_none rfl _ _ _, rfl, hbr.setCell (Nat.le_refl _) _, ?_⟩
      simp [go_sem, hxr]
    · clear he
      have hk1 : k + 1 ≤ 1 := by omega
      clear h0
      go_wp2_with fail
      refine (code_visit_fault _ W.heap.size wr).mono ?_
      rintro e w' ⟨rfl, rfl⟩
      go_wp2_with fail
      refine (unwrap_fault c a wr).mono ?_
      rintro e w1 ⟨rfl, hb1⟩
      have hlt2 := cell_lt hxr
      go_wp2_with fail
      exact ⟨⟨k + 1, u, hk1, by go_num, hbr.trans (hb1.mono hbr.size), Below.cell' hb1 hxr, (hb1.frozen hlt2).trans hfr, .inr rfl⟩, by simp [intOf]; omega⟩
theorem make_fn (fn : Fn) (first cap : Array Value) (w : World) : (Instr.makeFunc fn first cap).run Tryd.prog w = .ok (.func fn first cap) w := rfl
set_option maxHeartbeats 400000 in
theorem code_base (w : World) (c : Int) (o : Option Int) :
    Calls Tryd.prog 22 #[baseVal c o] w fun e w' => e = .returned (.int .i64 c) ∧ Below w.heap.size w w' := by
  have hmf := make_fn
  have HS := fun (w1 : World) (hb : Below w.heap.size w w1) x hx hf => search_code w w1 c o hb x hx hf
  obtain ⟨v, hv⟩ : ∃ v, v = baseVal c o := ⟨_, rfl⟩
  rw [← hv] at HS ⊢
  clear hv
  go_enter Tryd.func22, Tryd.ntmps22
  go_wp2_with fail
  refine (HS (w.alloc (.cells #[.int .i64 0] 45)) ((Below.refl _ _).alloc (Nat.le_refl _) _) (.int .i64 0) (by simp [go_sem]) (by simp [go_sem])).mono ?_
  rintro e w' ⟨rfl, hb, hc⟩
  clear HS
  go_wp2
  go_ret
  exact ⟨rfl, hb⟩
set_option maxRecDepth 100000 in
set_option maxHeartbeats 400000 in
theorem search_nil (f : Value) (w : World) :
    Calls Tryd.prog 41 #[.nilIface, f] w fun e w' => e = .returned (.tuple #[]) ∧ w = w' := by
  go_enter_defers Tryd.func41, Tryd.ntmps41
  go_wp2_with fail
  go_loop [0, 6] (fun e i => e = .nilIface ∧ i = .int .i64 0) (fun _ _ => 0)
  case atStart => exact ⟨rfl, rfl⟩
  case round =>
    obtain ⟨rfl, rfl⟩ := hrel
    go_wp2_with fail
    refine leaves_cons (f := 51) (args := #[]) (by simp) (by simp [go_sem]) ?_
    refine (search_idle _).mono ?_
    rintro e u' w'' ⟨rfl, rfl, rfl⟩
    exact ⟨_, results_none rfl _ _ _, rfl, rfl⟩

set_option maxHeartbeats 400000 in
/-- fault.Code of nil: 0. -/
theorem code_nil (w : World) :
    Calls Tryd.prog 22 #[.nilIface] w fun e w' => e = .returned (.int .i64 0) ∧ Below w.heap.size w w' := by
  have hmf := make_fn
  go_enter Tryd.func22, Tryd.ntmps22
  go_wp2_with (go_at_call 41; refine (search_nil _ _).mono ?_; rintro e w' ⟨rfl, rfl⟩)
  go_ret
  exact ⟨rfl, (Below.refl _ _).alloc (Nat.le_refl _) _⟩

end Go.Proofs.YtmaifldiondchaaDoor
