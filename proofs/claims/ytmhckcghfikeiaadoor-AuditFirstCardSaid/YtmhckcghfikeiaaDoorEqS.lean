/- slices.Equal of findings, and of strings. -/
import Derived.Test.YtmhckcghfikeiaaDoorTexts3
import Derived.DeepKeys
namespace Go.Proofs.YtmhckcghfikeiaaDoor
open Go.RowKit
attribute [local irreducible] wpQuiet wpAnyH
set_option linter.unusedSimpArgs false

theorem tf_eq {f g : ByteArray × Int} (h1 : f.1 = g.1) (h2 : f.2 = g.2) : f = g := by cases f; cases g; simp_all
theorem list_eq_step {α : Type} (l m : List α) (hlen : l.length = m.length) (k : Nat) (h : k < l.length) (hp : l.take k = m.take k) (he : l[k] = m[k]'(hlen ▸ h)) : l.take (k + 1) = m.take (k + 1) := by
  rw [List.take_succ_eq_append_getElem h, List.take_succ_eq_append_getElem (hlen ▸ h), hp, he]

theorem drewN_add (w : World) (a b : Nat) : (w.drewN a).drewN b = w.drewN (a + b) := by simp [World.drewN, Nat.add_assoc]
theorem lits_tf {f : ByteArray × Int} (h : TfOk f) : Tryd.prog.keyLits 3 34 (tfC f) = some [Lit.string f.1.data.toList, Lit.int .i64 f.2] := by
  have hc : Tryd.prog.cellsOf 34 = 2 := by kernel_rfl
  have hc1 : Tryd.prog.cellsOf 9 = 1 := by kernel_rfl
  have hc2 : Tryd.prog.cellsOf 3 = 1 := by kernel_rfl
  have hsz : f.1.size ≤ maxLen := by have := h.1; unfold maxLen; omega
  have k1 : Tryd.prog.keyLits 2 9 [.string f.1] = some [Lit.string f.1.data.toList] := by
    unfold Program.keyLits
    rw [Tryd.underlying9]
    simp [hsz]
  have k2 : Tryd.prog.keyLits 2 3 [.int .i64 f.2] = some [Lit.int .i64 f.2] := by
    unfold Program.keyLits
    rw [Tryd.underlying3]
    simp [wf_i64 h.2]
  unfold Program.keyLits
  rw [Tryd.underlying34]
  simp [tfC, hc, hc1, hc2, k1, k2]
theorem run_eqF {x y : ByteArray × Int} (hx : TfOk x) (hy : TfOk y) (w : World) : (Op.equalIn 10000 34 (.agg #[.string x.1, .int .i64 x.2]) (.agg #[.string y.1, .int .i64 y.2])).run Tryd.prog w = .ok (decide (x = y)) w := by
  have hu := Tryd.underlying34
  have hc : Tryd.prog.cellsOf 34 = 2 := by kernel_rfl
  have form : ∀ x : ByteArray × Int, Value.formed Tryd.prog 34 (.agg #[.string x.1, .int .i64 x.2]) = true := fun x => by
    unfold Value.formed
    rw [hu]
    simp [hc]
  obtain ⟨r, hr, hiff⟩ := run_equalIn_deep (P := Tryd.prog) 9997 3 34 (by kernel_rfl) w 3 3 (.agg #[.string x.1, .int .i64 x.2]) (.agg #[.string y.1, .int .i64 y.2]) _ _ (form x) (form y) (lits_tf hx) (lits_tf hy)
  rw [hr]
  congr 1
  by_cases h : x = y
  · subst h
    simpa using hiff.2 rfl
  · have : ¬ r = true := fun e => by
      have := hiff.1 e
      simp only [List.cons.injEq, Lit.string.injEq, Lit.int.injEq, true_and, and_true] at this
      exact h (tf_eq (ByteArray.ext (Array.toList_inj.1 this.1)) this.2)
    simpa [h] using this

set_option maxRecDepth 100000 in
set_option maxHeartbeats 4000000 in
theorem eqF_any (fs gs : List (ByteArray × Int)) (A B : Option Addr) (cap cap' : Nat) (w : World) (hs : Sn w 2 (.slice A fs.length cap) fs.length (fs.flatMap tfC)) (ht : Sn w 2 (.slice B gs.length cap') gs.length (gs.flatMap tfC)) (hl : fs.length ≤ 100000) (hok : ∀ f ∈ fs, TfOk f) (hok' : ∀ f ∈ gs, TfOk f) :
    Calls Tryd.prog 18 #[.slice A fs.length cap, .slice B gs.length cap'] w fun e w' => e = .returned (.bool (decide (fs = gs))) ∧ ∃ d, w' = w.drewN d := by
  have HS := Lib.hid hs
  have HT := Lib.hid ht
  have HOK := Lib.hid hok
  have HOK' := Lib.hid hok'
  clear hs ht hok hok'
  by_cases hlen : fs.length = gs.length
  · have t0 : ((fs.length : Int) != (gs.length : Int)) = false := by rw [hlen]; exact bne_self_eq_false _
    have HLEN := Lib.hid hlen
    clear hlen
    go_enter Tryd.func18, Tryd.ntmps18
    go_wp2_with fail
    go_loopw [13] (fun i wr => ∃ k : Nat, k ≤ fs.length ∧ i = .int .i64 k ∧ Hid (fs.take k = gs.take k) ∧ Hid (∃ d, wr = w.drewN d)) (fun i _ => fs.length - (intOf i).toNat)
    case atStart => exact ⟨0, Nat.zero_le _, rfl, Lib.hid rfl, Lib.hid ⟨0, rfl⟩⟩
    case round =>
      obtain ⟨k, hk, rfl, HE, HD⟩ := hrel
      obtain ⟨d, hd⟩ := HD.out
      rcases Nat.lt_or_ge k fs.length with hlt | hge
      · have hlt' : k < gs.length := HLEN.out ▸ hlt
        obtain ⟨b, off, eA, hrow⟩ := at_tf HS.out k hlt
        obtain ⟨b', off', eB, hrow'⟩ := at_tf HT.out k hlt'
        subst eA eB
        have c0 : wr.cell? ⟨b, off + k * 2, none⟩ = some (.string fs[k].1) := by rw [hd]; exact hrow 0 _ rfl
        have c1 : wr.cell? ⟨b, off + k * 2 + 1, none⟩ = some (.int .i64 fs[k].2) := by rw [hd]; exact hrow 1 _ rfl
        have d0 : wr.cell? ⟨b', off' + k * 2, none⟩ = some (.string gs[k].1) := by rw [hd]; exact hrow' 0 _ rfl
        have d1 : wr.cell? ⟨b', off' + k * 2 + 1, none⟩ = some (.int .i64 gs[k].2) := by rw [hd]; exact hrow' 1 _ rfl
        have hi0 : (0 : Int) ≤ k := by omega
        have hi1 : (k : Int) < fs.length := by omega
        have hi2 : (k : Int) < gs.length := by omega
        have HD2 := Lib.hid hd
        clear hd hrow hrow'
        have HST := Lib.hid (list_eq_step fs gs HLEN.out k hlt HE.out)
        obtain ⟨x, hx⟩ : ∃ x, x = fs[k] := ⟨_, rfl⟩
        obtain ⟨y, hy⟩ : ∃ y, y = gs[k] := ⟨_, rfl⟩
        have heq := run_eqF (HOK.out fs[k] (List.getElem_mem hlt)) (HOK'.out gs[k] (List.getElem_mem hlt'))
        rw [← hx] at c0 c1 HST heq
        rw [← hy] at d0 d1 HST heq
        have HX := Lib.hid hx
        have HY := Lib.hid hy
        clear hx hy
        rcases Bool.eq_false_or_eq_true (decide (x = y)) with e1 | e1
        · have HXY := Lib.hid (of_decide_eq_true e1)
          rw [e1] at heq
          clear e1
          go_wp2_with fail
          go_quiet (fail)
          go_wp2_with fail
          exact ⟨⟨k + 1, by omega, by go_num, Lib.hid (HST.out HXY.out), Lib.hid ⟨d + nq, by rw [HD2.out]; exact drewN_add _ _ _⟩⟩, by simp [intOf]; omega⟩
        · have HXY := Lib.hid (of_decide_eq_false e1)
          rw [e1] at heq
          clear e1
          go_wp2_with fail
          go_quiet (fail)
          go_wp2_with fail
          go_ret
          refine ⟨?_, d + nq, by rw [HD2.out]; exact drewN_add _ _ _⟩
          rw [decide_eq_false (fun e => HXY.out (by rw [HX.out, HY.out]; simp [e]))]
          rfl
      · obtain rfl : k = fs.length := by omega
        have hfe : fs = gs := by
          have := HE.out
          rw [List.take_length, HLEN.out, List.take_length] at this
          exact this
        have HF := Lib.hid hfe
        have HD2 := Lib.hid hd
        clear hfe
        clear hd
        go_wp2_with fail
        go_ret
        exact ⟨by rw [decide_eq_true HF.out]; rfl, d, HD2.out⟩
  · have t0 : ((fs.length : Int) != (gs.length : Int)) = true := by simp; omega
    go_enter Tryd.func18, Tryd.ntmps18
    go_wp2_with fail
    go_ret
    exact ⟨by rw [decide_eq_false (fun e => hlen (by rw [e]))]; rfl, 0, rfl⟩
theorem at_str {w : World} {A : Option Addr} {cap : Nat} {l : List ByteArray} (h : Sn w 1 (.slice A l.length cap) l.length (strs l)) (k : Nat) (hk : k < l.length) :
    ∃ b off, A = some ⟨b, off, none⟩ ∧ w.cell? ⟨b, off + k, none⟩ = some (.string l[k]) := by
  obtain ⟨A', cap', hv, _, _, hx⟩ := h
  injection hv with hA _ _
  subst hA
  obtain ⟨b, off, rfl, hc⟩ := hx (by omega)
  exact ⟨b, off, rfl, hc k _ (strs_get l k hk)⟩

set_option maxRecDepth 100000 in
set_option maxHeartbeats 4000000 in
theorem eqS_any (fs gs : List ByteArray) (A B : Option Addr) (cap cap' : Nat) (w : World) (hs : Sn w 1 (.slice A fs.length cap) fs.length (strs fs)) (ht : Sn w 1 (.slice B gs.length cap') gs.length (strs gs)) (hl : fs.length ≤ 100000) :
    Calls Tryd.prog 16 #[.slice A fs.length cap, .slice B gs.length cap'] w fun e w' => e = .returned (.bool (decide (fs = gs))) ∧ ∃ d, w' = w.drewN d := by
  have HS := Lib.hid hs
  have HT := Lib.hid ht
  clear hs ht
  by_cases hlen : fs.length = gs.length
  · have t0 : ((fs.length : Int) != (gs.length : Int)) = false := by rw [hlen]; exact bne_self_eq_false _
    have HLEN := Lib.hid hlen
    clear hlen
    go_enter Tryd.func16, Tryd.ntmps16
    go_wp2_with fail
    go_loopw [13] (fun i wr => ∃ k : Nat, k ≤ fs.length ∧ i = .int .i64 k ∧ Hid (fs.take k = gs.take k) ∧ Hid (∃ d, wr = w.drewN d)) (fun i _ => fs.length - (intOf i).toNat)
    case atStart => exact ⟨0, Nat.zero_le _, rfl, Lib.hid rfl, Lib.hid ⟨0, rfl⟩⟩
    case round =>
      obtain ⟨k, hk, rfl, HE, HD⟩ := hrel
      obtain ⟨d, hd⟩ := HD.out
      rcases Nat.lt_or_ge k fs.length with hlt | hge
      · have hlt' : k < gs.length := HLEN.out ▸ hlt
        obtain ⟨b, off, eA, hrow⟩ := at_str HS.out k hlt
        obtain ⟨b', off', eB, hrow'⟩ := at_str HT.out k hlt'
        subst eA eB
        have c0 : wr.cell? ⟨b, off + k, none⟩ = some (.string fs[k]) := by rw [hd]; exact hrow
        have d0 : wr.cell? ⟨b', off' + k, none⟩ = some (.string gs[k]) := by rw [hd]; exact hrow'
        have hi0 : (0 : Int) ≤ k := by omega
        have hi1 : (k : Int) < fs.length := by omega
        have hi2 : (k : Int) < gs.length := by omega
        have HD2 := Lib.hid hd
        clear hd hrow hrow'
        have HST := Lib.hid (list_eq_step fs gs HLEN.out k hlt HE.out)
        obtain ⟨x, hx⟩ : ∃ x, x = fs[k] := ⟨_, rfl⟩
        obtain ⟨y, hy⟩ : ∃ y, y = gs[k] := ⟨_, rfl⟩
        rw [← hx] at c0 HST
        rw [← hy] at d0 HST
        have HX := Lib.hid hx
        have HY := Lib.hid hy
        clear hx hy
        rcases Bool.eq_false_or_eq_true (decide (x = y)) with e1 | e1
        · have HXY := Lib.hid (of_decide_eq_true e1)
          have s1 : (x.toList == y.toList) = true := str_tt (of_decide_eq_true e1)
          have s2 : (x.toList != y.toList) = false := by simp only [bne, s1]; rfl
          clear e1
          go_wp2_with fail
          go_quiet (fail)
          go_wp2_with fail
          exact ⟨⟨k + 1, by omega, by go_num, Lib.hid (HST.out HXY.out), Lib.hid ⟨d + nq, by rw [HD2.out]; exact drewN_add _ _ _⟩⟩, by simp [intOf]; omega⟩
        · have HXY := Lib.hid (of_decide_eq_false e1)
          have s1 : (x.toList == y.toList) = false := str_ff (of_decide_eq_false e1)
          have s2 : (x.toList != y.toList) = true := by simp only [bne, s1]; rfl
          clear e1
          go_wp2_with fail
          go_quiet (fail)
          go_wp2_with fail
          go_ret
          refine ⟨?_, d + nq, by rw [HD2.out]; exact drewN_add _ _ _⟩
          rw [decide_eq_false (fun e => HXY.out (by rw [HX.out, HY.out]; simp [e]))]
          rfl
      · obtain rfl : k = fs.length := by omega
        have hfe : fs = gs := by
          have := HE.out
          rw [List.take_length, HLEN.out, List.take_length] at this
          exact this
        have HF := Lib.hid hfe
        have HD2 := Lib.hid hd
        clear hfe
        clear hd
        go_wp2_with fail
        go_ret
        exact ⟨by rw [decide_eq_true HF.out]; rfl, d, HD2.out⟩
  · have t0 : ((fs.length : Int) != (gs.length : Int)) = true := by simp; omega
    go_enter Tryd.func16, Tryd.ntmps16
    go_wp2_with fail
    go_ret
    exact ⟨by rw [decide_eq_false (fun e => hlen (by rw [e]))]; rfl, 0, rfl⟩
end Go.Proofs.YtmhckcghfikeiaaDoor
