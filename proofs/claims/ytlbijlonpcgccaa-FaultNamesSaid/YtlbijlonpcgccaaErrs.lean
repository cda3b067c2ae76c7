/- Errors of package fault: a chain of parts around a code or a fault; In, New, and the closures of Code and Place. -/
import Derived.Test.YtlbijlonpcgccaaWords
import Derived.Defers
import Derived.Recover
namespace Go.Proofs.Ytlbijlonpcgccaa
open Go.RowKit

/-- What an error is made of at its inside: a code, or a fault with a code and a place. -/
def baseVal (c : Int) : Option Int → Value
  | none => .iface 32 (.int .i64 c)
  | some at_ => .iface 54 (.agg #[.int .i64 c, .int .i64 at_])
/-- The error value v is the chain of the parts ps (the outermost first) around the code c, with or without a place. -/
def IsErr (w : World) (c : Int) (o : Option Int) : List ByteArray → Value → Prop
  | [], v => v = baseVal c o
  | p :: ps, v => ∃ b u, v = .iface 60 (.pointer (some ⟨b, 0, none⟩)) ∧ w.cell? ⟨b, 0, none⟩ = some (.string p) ∧ w.cell? ⟨b, 1, none⟩ = some u ∧ IsErr w c o ps u
theorem IsErr.keep {w w' : World} {c : Int} {o : Option Int} (hk : ∀ a u, w.cell? a = some u → w'.cell? a = some u) : ∀ {ps : List ByteArray} {v : Value}, IsErr w c o ps v → IsErr w' c o ps v
  | [], _, h => h
  | _ :: _, _, ⟨b, u, hv, h0, h1, hr⟩ => ⟨b, u, hv, hk _ _ h0, hk _ _ h1, IsErr.keep hk hr⟩
theorem IsErr.below {w w' : World} {c : Int} {o : Option Int} {ps : List ByteArray} {v : Value} (h : IsErr w c o ps v) (hb : Below w.heap.size w w') : IsErr w' c o ps v :=
  h.keep fun _ _ hc => Below.cell' hb hc

set_option maxHeartbeats 400000 in
theorem new_any (c a : Int) (w : World) :
    Calls Try.prog 21 #[.int .i64 c, .int .i64 a] w fun e w' => e = .returned (baseVal c (some a)) ∧ w = w' := by
  go_enter Try.func21, Try.ntmps21
  go_wp2
  go_ret
  exact ⟨rfl, rfl⟩

set_option maxHeartbeats 400000 in
theorem in_nil (p : ByteArray) (w : World) :
    Calls Try.prog 20 #[.string p, .nilIface] w fun e w' => e = .returned .nilIface ∧ w = w' := by
  go_enter Try.func20, Try.ntmps20
  go_wp2
  go_ret
  exact ⟨rfl, rfl⟩

def InPost (c : Int) (o : Option Int) (ps : List ByteArray) (w : World) (e : Ending) (w' : World) : Prop := ∃ v, e = .returned v ∧ IsErr w' c o ps v ∧ Below w.heap.size w w'
theorem IsErr.form {w : World} {c : Int} {o : Option Int} {ps : List ByteArray} {v : Value} (h : IsErr w c o ps v) : ∃ t u, v = .iface t u := by
  cases ps with
  | nil => cases o <;> exact ⟨_, _, h⟩
  | cons p ps => obtain ⟨b, u, rfl, _⟩ := h; exact ⟨_, _, rfl⟩

set_option maxHeartbeats 400000 in
theorem in_any (p : ByteArray) (c : Int) (o : Option Int) (ps : List ByteArray) (v : Value) (w : World) (h : IsErr w c o ps v) :
    Calls Try.prog 20 #[.string p, v] w (InPost c o (p :: ps) w) := by
  obtain ⟨t, u, rfl⟩ := h.form
  go_enter Try.func20, Try.ntmps20
  go_wp2
  go_ret
  refine ⟨_, rfl, ⟨w.heap.size, .iface t u, rfl, ?_, ?_, h.below ((Below.refl _ _).alloc (Nat.le_refl _) _)⟩, (Below.refl _ _).alloc (Nat.le_refl _) _⟩
  · simp [go_sem]
  · simp [go_sem]

theorem ta_code_inside (p : Value) (w : World) : (Instr.typeAssert (.iface 60 p) 28 32 true).run Try.prog w = .ok (.tuple #[.int .i64 0, .bool false]) w := by kernel_rfl
theorem ta_code_code (p : Value) (w : World) : (Instr.typeAssert (.iface 32 p) 28 32 true).run Try.prog w = .ok (.tuple #[p, .bool true]) w := by kernel_rfl
theorem ta_code_fault (p : Value) (w : World) : (Instr.typeAssert (.iface 54 p) 28 32 true).run Try.prog w = .ok (.tuple #[.int .i64 0, .bool false]) w := by kernel_rfl
theorem ta_fault_inside (p : Value) (w : World) : (Instr.typeAssert (.iface 60 p) 28 54 true).run Try.prog w = .ok (.tuple #[.agg #[.int .i64 0, .int .i64 0], .bool false]) w := by kernel_rfl
theorem ta_fault_code (p : Value) (w : World) : (Instr.typeAssert (.iface 32 p) 28 54 true).run Try.prog w = .ok (.tuple #[.agg #[.int .i64 0, .int .i64 0], .bool false]) w := by kernel_rfl
theorem ta_fault_fault (p : Value) (w : World) : (Instr.typeAssert (.iface 54 p) 28 54 true).run Try.prog w = .ok (.tuple #[p, .bool true]) w := by kernel_rfl
theorem ta_unwrap_inside (p : Value) (w : World) : (Instr.typeAssert (.iface 60 p) 28 63 true).run Try.prog w = .ok (.tuple #[.iface 60 p, .bool true]) w := by kernel_rfl
theorem ta_unwrap_fault (p : Value) (w : World) : (Instr.typeAssert (.iface 54 p) 28 63 true).run Try.prog w = .ok (.tuple #[.iface 54 p, .bool true]) w := by kernel_rfl
theorem least_parts (n : String) (f : String → Bool) (g : String → String) : ∃ m, (Instr.least ([n].partition f).2 <|> Instr.least (([n].partition f).1.map g)) = some m := by
  cases hf : f n <;> simp [List.partition, List.partition.loop, hf, Instr.least]
theorem missing_one (want : Array (String × TypeId)) (got : Array Method) (n : String) (h : (want.toList.filter fun (name, sig) => !got.any fun m => m.name == name && m.sig == sig).map (·.1) = [n]) : ∃ m, Instr.missingMethod want got = some m := by
  unfold Instr.missingMethod
  simp only [h]
  exact least_parts n _ _
theorem run_typeAssert_missing {P : Program} (w : World) (t xt a : TypeId) (v z : Value) (want : Array (String × TypeId)) (i : TypeInfo) (n : String) (hu : P.underlying a = some (.interface want)) (hi : P.info? t = some i)
    (h : (want.toList.filter fun (name, sig) => !i.methods.any fun m => m.name == name && m.sig == sig).map (·.1) = [n]) (hz : (zeroValue a).run P w = .ok z w) :
    (Instr.typeAssert (.iface t v) xt a true).run P w = .ok (.tuple #[z, .bool false]) w := by
  obtain ⟨m, hm⟩ := missing_one want i.methods n h
  simp only [Instr.typeAssert]
  simp [run_underlying hu, typeInfo, hi, hm, hz]
theorem ta_unwrap_code (p : Value) (w : World) : (Instr.typeAssert (.iface 32 p) 28 63 true).run Try.prog w = .ok (.tuple #[.nilIface, .bool false]) w := by
  have h : (Try.prog.info? 32).map (fun i => ((#[("Unwrap", 65)] : Array (String × TypeId)).toList.filter fun (name, sig) => !i.methods.any fun m => m.name == name && m.sig == sig).map (·.1)) = some ["Unwrap"] := by kernel_rfl
  obtain ⟨i, hi, hn⟩ := Option.map_eq_some_iff.1 h
  exact run_typeAssert_missing w 32 28 63 p .nilIface #[("Unwrap", 65)] i "Unwrap" (by kernel_rfl) hi hn (by kernel_rfl)

set_option maxHeartbeats 400000 in
theorem code_visit_inside (p : Value) (b : Nat) (w : World) :
    Calls Try.prog 27 #[.iface 60 p, .pointer (some ⟨b, 0, none⟩)] w fun e w' => e = .returned (.bool false) ∧ w = w' := by
  have h1 := ta_code_inside
  go_enter Try.func27, Try.ntmps27
  go_wp2
  go_ret
  exact ⟨rfl, rfl⟩
set_option maxHeartbeats 400000 in
theorem code_visit_code (c : Int) (b : Nat) (w : World) (x : Value) (hx : w.cell? ⟨b, 0, none⟩ = some x) (hf : w.frozen? ⟨b, 0, none⟩ = false) :
    Calls Try.prog 27 #[.iface 32 (.int .i64 c), .pointer (some ⟨b, 0, none⟩)] w fun e w' => e = .returned (.bool true) ∧ w.setCell ⟨b, 0, none⟩ (.int .i64 c) = w' := by
  have h1 := ta_code_code
  go_enter Try.func27, Try.ntmps27
  go_wp2
  go_ret
  exact ⟨rfl, rfl⟩
set_option maxHeartbeats 400000 in
theorem code_visit_fault (p : Value) (b : Nat) (w : World) :
    Calls Try.prog 27 #[.iface 54 p, .pointer (some ⟨b, 0, none⟩)] w fun e w' => e = .returned (.bool false) ∧ w = w' := by
  have h1 := ta_code_fault
  go_enter Try.func27, Try.ntmps27
  go_wp2
  go_ret
  exact ⟨rfl, rfl⟩

theorem m_unwrap_inside (a : Addr) (w : World) : (method 229 60 (.pointer (some a)) "Unwrap").run Try.prog w = .ok (65, .pointer (some a)) w := by kernel_rfl
theorem m_unwrap_fault (p : Value) (w : World) : (method 229 54 p "Unwrap").run Try.prog w = .ok (63, p) w := by kernel_rfl
theorem m_error_inside (a : Addr) (w : World) : (method 229 60 (.pointer (some a)) "Error").run Try.prog w = .ok (64, .pointer (some a)) w := by kernel_rfl
theorem m_error_fault (p : Value) (w : World) : (method 229 54 p "Error").run Try.prog w = .ok (62, p) w := by kernel_rfl
theorem m_error_code (p : Value) (w : World) : (method 229 32 p "Error").run Try.prog w = .ok (47, p) w := by kernel_rfl

set_option maxHeartbeats 400000 in
theorem unwrap_inside (b : Nat) (u : Value) (w : World) (h : w.cell? ⟨b, 1, none⟩ = some u) :
    Calls Try.prog 65 #[.pointer (some ⟨b, 0, none⟩)] w fun e w' => e = .returned u ∧ w = w' := by
  go_enter Try.func65, Try.ntmps65
  go_wp2
  go_ret
  exact ⟨rfl, rfl⟩
set_option maxHeartbeats 400000 in
theorem unwrap_fault (c a : Int) (w : World) :
    Calls Try.prog 63 #[.agg #[.int .i64 c, .int .i64 a]] w fun e w' => e = .returned (.iface 32 (.int .i64 c)) ∧ Below w.heap.size w w' := by
  go_enter Try.func63, Try.ntmps63
  go_wp2
  go_ret
  exact ⟨rfl, (Below.refl _ _).alloc (Nat.le_refl _) _⟩

theorem search_idle (w : World) :
    CallsD Try.prog 31 #[] .returning w fun e u' w' => e = .returned (.tuple #[]) ∧ u' = .returning ∧ w = w' := by
  refine callsD_of_wpS Try.func31 rfl fun c₀ cs hu => ?_
  apply wpS_region
  cases c₀
  simp_all [wpOpsS, go_sem, recoverD, Try.ntmps31, bodyPostS, results, Try.results31]

set_option maxRecDepth 100000 in
set_option maxHeartbeats 400000 in
theorem search_code (v : Value) (W w : World) (c : Int) (o : Option Int) (ps : List ByteArray) (h : IsErr W c o ps v) (hl : ps.length ≤ 60000) (hb : Below W.heap.size W w) (x : Value)
    (hx : w.cell? ⟨W.heap.size, 0, none⟩ = some x) (hf : w.frozen? ⟨W.heap.size, 0, none⟩ = false) :
    Calls Try.prog 25 #[v, .func (.func 27) #[] #[.pointer (some ⟨W.heap.size, 0, none⟩)]] w fun e w' => e = .returned (.tuple #[]) ∧ Below W.heap.size W w' ∧ w'.cell? ⟨W.heap.size, 0, none⟩ = some (.int .i64 c) := by
  go_enter_defers Try.func25, Try.ntmps25
  go_wp2_with fail
  go_loopw [0, 6] (fun e i wr => ∃ (k : Nat) (qs : List ByteArray) (u : Value), k ≤ 60001 ∧ i = .int .i64 k ∧ Below W.heap.size W wr ∧ wr.cell? ⟨W.heap.size, 0, none⟩ = some u ∧ wr.frozen? ⟨W.heap.size, 0, none⟩ = false ∧ ((k + qs.length ≤ 60000 ∧ IsErr W c o qs e) ∨ (qs = [] ∧ e = .iface 32 (.int .i64 c)))) (fun _ i _ => 65536 - (intOf i).toNat)
  case atStart => exact ⟨0, ps, x, by omega, rfl, hb, hx, hf, .inl ⟨by omega, h⟩⟩
  case round =>
    obtain ⟨k, qs, u, hk, rfl, hbr, hxr, hfr, he⟩ := hrel
    have h1 := ta_unwrap_inside
    have h2 := ta_unwrap_fault
    have h3 := ta_unwrap_code
    have h4 := m_unwrap_inside
    have h5 := m_unwrap_fault
    have hlt : decide ((k : Int) < 65536) = true := by simp; omega
    rcases (show (qs = [] ∧ _ = Value.iface 32 (.int .i64 c)) ∨ (∃ a, qs = [] ∧ k ≤ 60000 ∧ _ = Value.iface 54 (.agg #[.int .i64 c, .int .i64 a])) ∨ (∃ q ps', qs = q :: ps' ∧ k + 1 + ps'.length ≤ 60000 ∧ IsErr W c o (q :: ps') _) from by
      rcases he with ⟨hk2, he⟩ | ⟨h0, he⟩
      · cases qs with
        | nil => cases o with
          | none => exact .inl ⟨rfl, he⟩
          | some a => exact .inr (.inl ⟨a, rfl, by simpa using hk2, he⟩)
        | cons q qs => exact .inr (.inr ⟨q, qs, rfl, by simp at hk2; omega, he⟩)
      · exact .inl ⟨h0, he⟩) with ⟨rfl, rfl⟩ | ⟨a, rfl, hk3, rfl⟩ | ⟨q, ps', rfl, hk3, b, u', rfl, hc0, hc1, hr⟩
    · clear he
      go_wp2_with fail
      refine (code_visit_code c W.heap.size wr u hxr hfr).mono ?_
      rintro e w' ⟨rfl, rfl⟩
      go_wp2_with fail
      refine leaves_cons (f := 31) (args := #[]) (by simp) (by simp [go_sem]) ?_
      refine (search_idle _).mono ?_
      rintro e u' w'' ⟨rfl, rfl, rfl⟩
      refine ⟨_, results_none rfl _ _ _, rfl, hbr.setCell (Nat.le_refl _) _, ?_⟩
      simp [go_sem, hxr]
    · clear he
      go_wp2_with fail
      refine (code_visit_fault _ W.heap.size wr).mono ?_
      rintro e w' ⟨rfl, rfl⟩
      go_wp2_with fail
      refine (unwrap_fault c a wr).mono ?_
      rintro e w1 ⟨rfl, hb1⟩
      have hlt2 := cell_lt hxr
      go_wp2_with fail
      exact ⟨⟨k + 1, [], u, by omega, by go_num, hbr.trans (hb1.mono hbr.size), Below.cell' hb1 hxr, (hb1.frozen hlt2).trans hfr, .inr ⟨rfl, rfl⟩⟩, by simp [intOf]; omega⟩
    · have hc1' := Below.cell' hbr hc1
      clear he
      go_wp2_with fail
      refine (code_visit_inside (.pointer (some ⟨b, 0, none⟩)) W.heap.size wr).mono ?_
      rintro e w' ⟨rfl, rfl⟩
      go_wp2_with fail
      refine (unwrap_inside b u' wr hc1').mono ?_
      rintro e w' ⟨rfl, rfl⟩
      go_wp2_with fail
      exact ⟨⟨k + 1, ps', u, by omega, by go_num, hbr, hxr, hfr, .inl ⟨hk3, hr⟩⟩, by simp [intOf]; omega⟩

theorem make_fn (fn : Fn) (first cap : Array Value) (w : World) : (Instr.makeFunc fn first cap).run Try.prog w = .ok (.func fn first cap) w := rfl

set_option maxHeartbeats 400000 in
/-- fault.Code of a chain: its code. -/
theorem code_any (v : Value) (w : World) (c : Int) (o : Option Int) (ps : List ByteArray) (h : IsErr w c o ps v) (hl : ps.length ≤ 60000) :
    Calls Try.prog 12 #[v] w fun e w' => e = .returned (.int .i64 c) ∧ Below w.heap.size w w' := by
  have hmf := make_fn
  go_enter Try.func12, Try.ntmps12
  go_wp2_with fail
  refine (search_code v w (w.alloc (.cells #[.int .i64 0] 32)) c o ps h hl ((Below.refl _ _).alloc (Nat.le_refl _) _) (.int .i64 0) (by simp [go_sem]) (by simp [go_sem])).mono ?_
  rintro e w' ⟨rfl, hb, hc⟩
  go_wp2
  go_ret
  exact ⟨rfl, hb⟩

set_option maxRecDepth 100000 in
set_option maxHeartbeats 400000 in
theorem search_nil (f : Value) (w : World) :
    Calls Try.prog 25 #[.nilIface, f] w fun e w' => e = .returned (.tuple #[]) ∧ w = w' := by
  go_enter_defers Try.func25, Try.ntmps25
  go_wp2_with fail
  go_loop [0, 6] (fun e i => e = .nilIface ∧ i = .int .i64 0) (fun _ _ => 0)
  case atStart => exact ⟨rfl, rfl⟩
  case round =>
    obtain ⟨rfl, rfl⟩ := hrel
    go_wp2_with fail
    refine leaves_cons (f := 31) (args := #[]) (by simp) (by simp [go_sem]) ?_
    refine (search_idle _).mono ?_
    rintro e u' w'' ⟨rfl, rfl, rfl⟩
    exact ⟨_, results_none rfl _ _ _, rfl, rfl⟩

set_option maxHeartbeats 400000 in
/-- fault.Code of nil: 0. -/
theorem code_nil (w : World) :
    Calls Try.prog 12 #[.nilIface] w fun e w' => e = .returned (.int .i64 0) ∧ Below w.heap.size w w' := by
  have hmf := make_fn
  go_enter Try.func12, Try.ntmps12
  go_wp2_with (go_at_call 25; refine (search_nil _ _).mono ?_; rintro e w' ⟨rfl, rfl⟩)
  go_ret
  exact ⟨rfl, (Below.refl _ _).alloc (Nat.le_refl _) _⟩

end Go.Proofs.Ytlbijlonpcgccaa
