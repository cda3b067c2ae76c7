/- The law ScriptTexts: its walk. -/
import Derived.Test.YtmaifldiondchaaDoorAwake24
import Derived.Test.YtmaifldiondchaaDoorRParT
import Derived.Test.YtmaifldiondchaaDoorPlace1
namespace Go.Proofs.YtmaifldiondchaaDoor
open Go.RowKit
attribute [local irreducible] wpAnyH wpQuiet
set_option linter.unusedSimpArgs false

theorem errV_base (n : Nat) : errV n = baseVal 16 (some (n : Int)) := rfl
theorem op_at {w : World} {A : Option Addr} {cap : Nat} {R : List OpR} {n : Nat} (hn : n = R.length) (h : Sn w 4 (.slice A n cap) n (R.flatMap opC)) (k : Nat) (hk : k < R.length) :
    ∃ b off, A = some ⟨b, off, none⟩ ∧ w.rangeAt b (off + k * 4) (opC R[k]) := by
  subst hn
  exact at_op h k hk
theorem opsOf_len {R R' : List OpR} (h : opsOf R = opsOf R') : R.length = R'.length := by
  have := congrArg List.length h
  simpa [opsOf] using this
theorem opsOf_get {R R' : List OpR} (h : opsOf R = opsOf R') (k : Nat) (h1 : k < R.length) (h2 : k < R'.length) : R[k].o = R'[k].o := by
  have : (opsOf R)[k]? = (opsOf R')[k]? := by rw [h]
  simpa [opsOf, h1, h2] using this

set_option maxRecDepth 100000 in
set_option maxHeartbeats 8000000 in
theorem texts_long (s : Bs) (w : World) (ht : Tab w) (hml : ML w) (hs : 3000 < s.length) (hm : s.length ≤ 9223372036854775807) :
    Calls Tryd.prog 7 #[.string (SB s)] w fun e w' => e = .returned (.bool true) ∧ Below w.heap.size w w' := by
  have HT := Lib.hid ht
  have HML := Lib.hid hml
  clear ht hml
  have hsz : (SB s).size = s.length := SB_size s
  have t1 : decide ((3000 : Int) < s.length) = true := by simp; omega
  obtain ⟨S, hS⟩ : ∃ S, S = SB s := ⟨_, rfl⟩
  rw [← hS] at hsz ⊢
  clear hS
  go_enter Tryd.func7, Tryd.ntmps7
  go_wp2_with (first
    | (go_at_call 8; refine (awake_any w1 (HT.out.below HB1.out) (HML.out.below HB1.out)).mono ?_; rintro e wz ⟨rfl, hbz⟩; have HBZ := Lib.hid (bstep HB1.out hbz); clear hbz)
    | (go_at_call 8; refine (awake_any w HT.out HML.out).mono ?_; rintro e w1 ⟨rfl, hb1⟩; have HB1 := Lib.hid hb1; clear hb1))
  go_ret
  exact ⟨rfl, HBZ.out⟩
set_option maxRecDepth 100000 in
set_option maxHeartbeats 8000000 in
theorem texts_bad (s : Bs) (w : World) (ht : Tab w) (hml : ML w) (hl : s.length ≤ 3000) (hN0 : 1 ≤ (parseT s).1) :
    Calls Tryd.prog 7 #[.string (SB s)] w fun e w' => e = .returned (.bool true) ∧ Below w.heap.size w w' := by
  have HT := Lib.hid ht
  have HML := Lib.hid hml
  clear ht hml
  have hsz : (SB s).size = s.length := SB_size s
  have t1 : decide ((3000 : Int) < s.length) = false := by simp; omega
  have HPA := Lib.hid (fun (w1 : World) (hb : Below w.heap.size w w1) => Parse_any s w1 (HML.out.below hb) (by omega))
  have HRP := Lib.hid (fun (w1 : World) => refParseT_any s w1 (by omega))
  obtain ⟨S, hS⟩ : ∃ S, S = SB s := ⟨_, rfl⟩
  rw [← hS] at hsz HPA HRP ⊢
  clear hS
  obtain ⟨N, hN⟩ : ∃ N, N = (parseT s).1 := ⟨_, rfl⟩
  rw [← hN] at HPA HRP hN0
  clear hN
  have HP1 : Hid (∀ w1, Below w.heap.size w w1 → Calls Tryd.prog 17 #[.string S] w1 fun e w' => e = .returned (.tuple #[.slice none 0 0, errV N]) ∧ Below w1.heap.size w1 w') := Lib.hid (fun w1 hb => (HPA.out w1 hb).mono (by
    rintro e w' ⟨h1, v, ev, rfl, h⟩
    rcases h with ⟨h0, _⟩ | ⟨_, rfl, rfl⟩
    · omega
    · exact ⟨rfl, h1⟩))
  have HR1 : Hid (∀ w1, Calls Tryd.prog 20 #[.string S] w1 fun e w' => e = .returned (.tuple #[.slice none 0 0, .int .i64 (N : Int)]) ∧ Below w1.heap.size w1 w') := Lib.hid (fun w1 => (HRP.out w1).mono (by
    rintro e w' ⟨h1, v, rfl, h⟩
    rcases h with ⟨h0, _⟩ | ⟨_, rfl⟩
    · omega
    · exact ⟨rfl, h1⟩))
  have HCO := Lib.hid (fun w1 => code_base w1 16 (some (N : Int)))
  have HPL := Lib.hid (fun w1 => place_base w1 16 (N : Int))
  rw [← errV_base] at HCO HPL
  obtain ⟨ev, hev⟩ : ∃ ev, ev = errV N := ⟨_, rfl⟩
  rw [← hev] at HCO HPL HP1
  have t2 : decide ((0 : Int) < (N : Int)) = true := by simp; omega
  have t3 : decide (0 < N) = true := by simp; omega
  have HNN : Hid (((N : Int) == (N : Int)) = true) := Lib.hid (beq_self_eq_true _)
  have hnn := HNN.out
  clear hev HPA HRP
  go_enter Tryd.func7, Tryd.ntmps7
  go_wp2_with (first
    | (go_at_call 8; refine (awake_any w HT.out HML.out).mono ?_; rintro e w1 ⟨rfl, hb1⟩; have HB1 := Lib.hid hb1; clear hb1)
    | (go_at_call 17; refine (HP1.out _ HB1.out).mono ?_; rintro e w2 ⟨rfl, hb2⟩; have HB2 := Lib.hid (bstep HB1.out hb2); clear hb2)
    | (go_at_call 20; refine (HR1.out _).mono ?_; rintro e w3 ⟨rfl, hb3⟩; have HB3 := Lib.hid (bstep HB2.out hb3); clear hb3)
    | (go_at_call 21; refine (HPL.out _).mono ?_; rintro e w4 ⟨rfl, hb4⟩; have HB4 := Lib.hid (bstep HB3.out hb4); clear hb4)
    | (go_at_call 22; refine (HCO.out _).mono ?_; rintro e w5 ⟨rfl, hb5⟩; have HB5 := Lib.hid (bstep HB4.out hb5); clear hb5))
  go_ret
  exact ⟨rfl, HB5.out⟩
set_option maxRecDepth 100000 in
set_option maxHeartbeats 8000000 in
theorem texts_good (s : Bs) (w : World) (ht : Tab w) (hml : ML w) (hl : s.length ≤ 3000) (hN0 : (parseT s).1 = 0) :
    Calls Tryd.prog 7 #[.string (SB s)] w fun e w' => e = .returned (.bool true) ∧ Below w.heap.size w w' := by
  have HT := Lib.hid ht
  have HML := Lib.hid hml
  clear ht hml
  have hsz : (SB s).size = s.length := SB_size s
  have t1 : decide ((3000 : Int) < s.length) = false := by simp; omega
  have HPA := Lib.hid (fun (w1 : World) (hb : Below w.heap.size w w1) => Parse_any s w1 (HML.out.below hb) (by omega))
  have HRP := Lib.hid (fun (w1 : World) => refParseT_any s w1 (by omega))
  obtain ⟨S, hS⟩ : ∃ S, S = SB s := ⟨_, rfl⟩
  rw [← hS] at hsz HPA HRP ⊢
  clear hS
  obtain ⟨N, hN⟩ : ∃ N, N = (parseT s).1 := ⟨_, rfl⟩
  rw [← hN] at HPA HRP hN0
  clear hN
  subst hN0
  go_enter Tryd.func7, Tryd.ntmps7
  have HP0 : Hid (∀ w1, Below w.heap.size w w1 → Calls Tryd.prog 17 #[.string S] w1 fun e w' => Below w1.heap.size w1 w' ∧ ∃ (R : List OpR) (A : Option Addr) (c : Nat), e = .returned (.tuple #[.slice A R.length c, .nilIface]) ∧ opsOf R = (parseT s).2 ∧ Sn w' 4 (.slice A R.length c) R.length (R.flatMap opC) ∧ ∀ x ∈ R, OpI w' x) := Lib.hid (fun w1 hb => (HPA.out w1 hb).mono (by
    rintro e w' ⟨h1, v, ev, rfl, h⟩
    rcases h with ⟨_, rfl, R, hR, hown, hops⟩ | ⟨h0, _⟩
    · obtain ⟨A, c, rfl, hsn, _⟩ := own_sn hown
      exact ⟨h1, R, A, c, rfl, hR, hsn, hops⟩
    · omega))
  have HR0 : Hid (∀ w1, Calls Tryd.prog 20 #[.string S] w1 fun e w' => Below w1.heap.size w1 w' ∧ ∃ (R : List OpR) (A : Option Addr) (c : Nat), e = .returned (.tuple #[.slice A R.length c, .int .i64 0]) ∧ opsOf R = (parseT s).2 ∧ Sn w' 4 (.slice A R.length c) R.length (R.flatMap opC) ∧ ∀ x ∈ R, OpI w' x) := Lib.hid (fun w1 => (HRP.out w1).mono (by
    rintro e w' ⟨h1, v, rfl, h⟩
    rcases h with ⟨_, R, hR, hown, hops⟩ | ⟨h0, _⟩
    · obtain ⟨A, c, rfl, hsn, _⟩ := own_sn hown
      exact ⟨h1, R, A, c, rfl, hR, hsn, hops⟩
    · omega))
  have HLEN : Hid (∀ o ∈ (parseT s).2, o.data.length ≤ 131072 ∧ o.cuts.length ≤ 20) := Lib.hid (runT_bound _ _ _ (by simp))
  clear HPA HRP
  go_upto_region 8 with (first
    | (go_at_call 8; refine (awake_any w HT.out HML.out).mono ?_; rintro e w1 ⟨rfl, hb1⟩; have HB1 := Lib.hid hb1; clear hb1)
    | (go_at_call 17; refine (HP0.out _ HB1.out).mono ?_; rintro e w2 ⟨hb2, R, A1, cA, rfl, hR, hsn, hops⟩; have HB2 := Lib.hid (bstep HB1.out hb2); have HRO := Lib.hid hR; have HSN := Lib.hid hsn; have HOP := Lib.hid hops; clear hb2 hR hsn hops)
    | (go_at_call 20; refine (HR0.out _).mono ?_; rintro e w3 ⟨hb3, R', A2, cB, rfl, hR', hsn', hops'⟩; have HB3 := Lib.hid (bstep HB2.out hb3); have HB23 := Lib.hid hb3; have HRO' := Lib.hid hR'; have HSN' := Lib.hid hsn'; have HOP' := Lib.hid hops'; clear hb3 hR' hsn' hops'))
  have HEQ : Hid (opsOf R = opsOf R') := Lib.hid (by rw [HRO.out, HRO'.out])
  have hlen : R'.length = R.length := (opsOf_len HEQ.out).symm
  rw [hlen] at HSN' ⊢
  have HL := Lib.hid hlen
  have hRl : R.length ≤ 3001 := by have h1 := parseT_len s; rw [← HRO.out] at h1; simp only [opsOf, List.length_map] at h1; omega
  clear hlen
  have HB3' := HB3
  have hnn : (((R.length : Nat) : Int) != ((R.length : Nat) : Int)) = false := by simp
  go_wp2_with fail
  clear hnn
  go_loopw [9] (fun i wr => ∃ j : Nat, j ≤ R.length ∧ i = .int .i64 (j : Int) ∧ Hid (Below w3.heap.size w3 wr)) (fun i _ => R.length - (intOf i).toNat)
  case atStart => exact ⟨0, Nat.zero_le _, rfl, Lib.hid (Below.refl _ _)⟩
  case round =>
    obtain ⟨j, hj, rfl, HBR⟩ := hrel
    rcases Nat.lt_or_ge j R.length with hlt | hge
    · have hlt' : j < R'.length := by rw [HL.out]; exact hlt
      obtain ⟨b1, o1, rfl, hr1⟩ := op_at rfl ((HSN.out.below HB23.out).below HBR.out) j hlt
      obtain ⟨b2, o2, rfl, hr2⟩ := op_at HL.out.symm (HSN'.out.below HBR.out) j hlt'
      have hi1 := ((HOP.out _ (List.getElem_mem hlt)).below HB23.out).below HBR.out
      have hi2 := (HOP'.out _ (List.getElem_mem hlt')).below HBR.out
      have hoo := opsOf_get HEQ.out j hlt hlt'
      have hbd := HLEN.out R[j].o (by rw [← HRO.out]; exact List.mem_map_of_mem (List.getElem_mem hlt))
      obtain ⟨x, hx⟩ : ∃ x, x = R[j] := ⟨_, rfl⟩
      obtain ⟨y, hy⟩ : ∃ y, y = R'[j] := ⟨_, rfl⟩
      rw [← hx] at hr1 hi1 hoo hbd
      rw [← hy] at hr2 hi2 hoo
      clear hx hy
      obtain ⟨⟨k, n, d, c⟩, Ax, ca, Bx, cb⟩ := x
      obtain ⟨o', Ay, ca2, By, cb2⟩ := y
      simp only at hoo
      subst hoo
      have HRA : Hid (wr.rangeAt b1 (o1 + j * 4) [.int .i64 k, .int .i64 n, .slice Ax d.length ca, .slice Bx c.length cb]) := Lib.hid hr1
      have HRB : Hid (wr.rangeAt b2 (o2 + j * 4) [.int .i64 k, .int .i64 n, .slice Ay d.length ca2, .slice By c.length cb2]) := Lib.hid hr2
      have HSA : Hid (∀ wz, Below wr.heap.size wr wz → Calls Tryd.prog 11 #[.agg #[.int .i64 k, .int .i64 n, .slice Ax d.length ca, .slice Bx c.length cb], .agg #[.int .i64 k, .int .i64 n, .slice Ay d.length ca2, .slice By c.length cb2]] wz fun e w' => e = .returned (.bool true) ∧ Below wz.heap.size wz w') := Lib.hid (fun wz hb => by
        have h := refSame_any k n k n d d c c Ax Ay Bx By ca ca2 cb cb2 wz (hi1.1.below hb) (hi2.1.below hb) (hi1.2.below hb) (hi2.2.below hb) (by have h2 : c.length ≤ 20 := hbd.2; omega) (by have h2 : d.length ≤ 131072 := hbd.1; omega)
        rw [(sameB_iff _ _).2 rfl] at h
        exact h)
      clear hr1 hr2 hi1 hi2 hbd
      have hj0 : (0 : Int) ≤ j := by omega
      have hj1 : (j : Int) < R.length := by omega
      go_wp2_with fail
      refine held_start 10 (fun wz => Below wr.heap.size wr wz) (by kernel_rfl) (by kernel_rfl) ((Below.refl _ _).drew) (fun hHeld => ?_)
      refine hMove 0 (Operand.tmp 3) (some 66) (.slice (some ⟨b1, o1, none⟩) R.length cA) (by kernel_rfl) (by kernel_rfl) (by kernel_rfl) (by kernel_rfl) (by kernel_rfl) (fun _ _ _ h => h) (by exact rfl) hHeld ?_
      simp only [Act.put, List.setIfInBounds_toArray, List.set_cons_zero, List.set_cons_succ]
      refine hMove 1 (Operand.tmp 9) (some 67) (.int .i64 (j : Int)) (by kernel_rfl) (by kernel_rfl) (by kernel_rfl) (by kernel_rfl) (by kernel_rfl) (fun _ _ _ h => h) (by exact rfl) hHeld ?_
      simp only [Act.put, List.setIfInBounds_toArray, List.set_cons_zero, List.set_cons_succ]
      refine hTake 2 (Op.indexAddr 32 (Operand.tmp 66) (Operand.tmp 67)) (some 68) (.pointer (some ⟨b1, o1 + j * 4, none⟩)) (by kernel_rfl) (by kernel_rfl) (by kernel_rfl) (by kernel_rfl) (by kernel_rfl) (fun _ _ _ h => h) (fun o ho wX hX => by unfold execOp; simp only [ho]; go_simp) hHeld ?_
      simp only [Act.put, List.setIfInBounds_toArray, List.set_cons_zero, List.set_cons_succ]
      refine hLoad 3 26 (Operand.tmp 68) (some 69) (cs := [.int .i64 k, .int .i64 n, .slice Ax d.length ca, .slice Bx c.length cb]) (by kernel_rfl) (by kernel_rfl) (by kernel_rfl) (by kernel_rfl) (by kernel_rfl) (fun _ _ _ h => h) (by exact rfl) (fun _ hX => fun j' u hj => Below.cell' hX (HRA.out j' u hj)) Tryd.underlying26 rfl (by kernel_rfl) hHeld ?_
      simp only [Act.put, List.setIfInBounds_toArray, List.set_cons_zero, List.set_cons_succ]
      refine hMove 4 (Operand.tmp 5) (some 70) (.slice (some ⟨b2, o2, none⟩) R.length cB) (by kernel_rfl) (by kernel_rfl) (by kernel_rfl) (by kernel_rfl) (by kernel_rfl) (fun _ _ _ h => h) (by exact rfl) hHeld ?_
      simp only [Act.put, List.setIfInBounds_toArray, List.set_cons_zero, List.set_cons_succ]
      refine hMove 5 (Operand.tmp 9) (some 71) (.int .i64 (j : Int)) (by kernel_rfl) (by kernel_rfl) (by kernel_rfl) (by kernel_rfl) (by kernel_rfl) (fun _ _ _ h => h) (by exact rfl) hHeld ?_
      simp only [Act.put, List.setIfInBounds_toArray, List.set_cons_zero, List.set_cons_succ]
      refine hTake 6 (Op.indexAddr 32 (Operand.tmp 70) (Operand.tmp 71)) (some 72) (.pointer (some ⟨b2, o2 + j * 4, none⟩)) (by kernel_rfl) (by kernel_rfl) (by kernel_rfl) (by kernel_rfl) (by kernel_rfl) (fun _ _ _ h => h) (fun o ho wX hX => by unfold execOp; simp only [ho]; go_simp) hHeld ?_
      simp only [Act.put, List.setIfInBounds_toArray, List.set_cons_zero, List.set_cons_succ]
      refine hLoad 7 26 (Operand.tmp 72) (some 73) (cs := [.int .i64 k, .int .i64 n, .slice Ay d.length ca2, .slice By c.length cb2]) (by kernel_rfl) (by kernel_rfl) (by kernel_rfl) (by kernel_rfl) (by kernel_rfl) (fun _ _ _ h => h) (by exact rfl) (fun _ hX => fun j' u hj => Below.cell' hX (HRB.out j' u hj)) Tryd.underlying26 rfl (by kernel_rfl) hHeld ?_
      simp only [Act.put, List.setIfInBounds_toArray, List.set_cons_zero, List.set_cons_succ]
      refine wpAnyH_ready (rs := [8]) (by kernel_rfl) (by simp) ?_
      refine rCall 8 (Op.call { callee := Callee.value (Operand.func 11), args := #[Operand.tmp 69, Operand.tmp 73], argTypes := #[26, 26] }) (some 74) 11 (#[.agg ([.int .i64 k, .int .i64 n, .slice Ax d.length ca, .slice Bx c.length cb]).toArray, .agg ([.int .i64 k, .int .i64 n, .slice Ay d.length ca2, .slice By c.length cb2]).toArray]) (by kernel_rfl) (by kernel_rfl) (fun o ho => by unfold execOp; simp only [ho]; go_simp) ?_ AllReadyH.nil
      refine (HSA.out _ hHeld).mono ?_
      rintro e wM ⟨rfl, hbM⟩
      refine ⟨_, rfl, bstep hHeld hbM, fun hHeld => ?_⟩
      simp only [Act.put, List.setIfInBounds_toArray, List.set_cons_zero, List.set_cons_succ]
      refine hTake 9 (Op.unOp UnOp.not 4 (Operand.tmp 74)) (some 75) (.bool false) (by kernel_rfl) (by kernel_rfl) (by kernel_rfl) (by kernel_rfl) (by kernel_rfl) (fun _ _ _ h => h) (fun o ho wX hX => by unfold execOp; simp only [ho]; go_simp) hHeld ?_
      simp only [Act.put, List.setIfInBounds_toArray, List.set_cons_zero, List.set_cons_succ]
      refine wpAnyH_done (by kernel_rfl) ?_ _
      have HBE := Lib.hid (bstep HBR.out hHeld)
      clear hHeld
      go_wp2_with fail
      exact ⟨⟨j + 1, by omega, by go_num, HBE⟩, by simp [intOf]; omega⟩
    · go_wp2_with fail
      go_ret
      exact ⟨rfl, bstep HB3.out HBR.out⟩
theorem textsLaw_any (s : Bs) (w : World) (ht : Tab w) (hml : ML w) (hs : s.length ≤ 9223372036854775807) :
    Calls Tryd.prog 7 #[.string (SB s)] w fun e w' => e = .returned (.bool true) ∧ Below w.heap.size w w' := by
  by_cases h1 : 3000 < s.length
  · exact texts_long s w ht hml h1 hs
  · by_cases h2 : 1 ≤ (parseT s).1
    · exact texts_bad s w ht hml (by omega) h2
    · exact texts_good s w ht hml (by omega) (by omega)
theorem textsLaw_str (a : ByteArray) (w : World) (ht : Tab w) (hml : ML w) (hs : a.size ≤ maxLen) :
    Calls Tryd.prog 7 #[.string a] w fun e w' => e = .returned (.bool true) ∧ Below w.heap.size w w' := by
  have h := textsLaw_any a.data.toList w ht hml (by unfold maxLen at hs; simpa using hs)
  rw [SB_back] at h
  exact h
end Go.Proofs.YtmaifldiondchaaDoor
