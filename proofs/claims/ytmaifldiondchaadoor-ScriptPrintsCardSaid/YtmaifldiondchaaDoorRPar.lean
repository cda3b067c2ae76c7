/- The reference's ParseLine. -/
import Derived.Test.YtmaifldiondchaaDoorRPar0
import Derived.Deep.RegionHeld3
import Derived.Deep.QuietTactic
import Derived.BigQuiet
import Derived.Deep.DeepCutAuto
namespace Go.Proofs.YtmaifldiondchaaDoor
open Go.RowKit
attribute [local irreducible] wpAnyH wpQuiet
set_option linter.unusedSimpArgs false

def kTo (j : Nat) (k : Int) : Int := if k ≤ (j : Int) then k else 0
def namesA : Array Value := #[.string ⟨#[116, 105, 99, 107]⟩, .string ⟨#[98, 111, 111, 116]⟩, .string ⟨#[118, 101, 114, 105, 102, 121]⟩, .string ⟨#[99, 111, 109, 112, 97, 99, 116]⟩, .string ⟨#[102, 97, 105, 108]⟩, .string ⟨#[99, 114, 97, 115, 104]⟩]
theorem names_at : ∀ j, j < 6 → namesA[j]? = some (.string (SB (wordL ((j : Int) + 1))))
  | 0, _ => rfl
  | 1, _ => rfl
  | 2, _ => rfl
  | 3, _ => rfl
  | 4, _ => rfl
  | 5, _ => rfl
  | n + 6, h => by omega
theorem SB_eq (x y : Bs) : ((SB x).toList == (SB y).toList) = decide (x = y) := by
  rw [ByteArray.toList_eq, ByteArray.toList_eq, SB_list, SB_list, Bool.eq_iff_iff]
  simp
theorem kind_eq (x : Bs) (j : Nat) (h : j < 6) : (x = wordL ((j : Int) + 1)) ↔ kindOf x = (j : Int) + 1 := by
  constructor
  · rintro rfl
    exact kindOf_word (by omega)
  · intro e
    have := word_kindOf (w := x) (by omega)
    rw [e] at this
    exact this.symm
theorem sn_head {W : World} {A : Option Addr} {n ca : Nat} {x : Bs} {xs : List Bs} (h : Sn W 1 (.slice A (n + 1) ca) (n + 1) (strC (x :: xs))) : ∃ b off, A = some ⟨b, off, none⟩ ∧ W.cell? ⟨b, off, none⟩ = some (.string (SB x)) := by
  obtain ⟨A1, cap1, hv, hc, hl, hx⟩ := h
  injection hv with e1 _ e3
  subst e1 e3
  obtain ⟨b, off, rfl, hcell⟩ := hx (by omega)
  exact ⟨b, off, rfl, hcell 0 _ rfl⟩
theorem kTo_hit {j : Nat} {K : Int} (h : K = (j : Int) + 1) : kTo (j + 1) K = (j : Int) + 1 := by unfold kTo; rw [if_pos (by omega)]; exact h
theorem kTo_miss {j : Nat} {K : Int} (h : K ≠ (j : Int) + 1) : kTo (j + 1) K = kTo j K := by
  unfold kTo
  by_cases h1 : K ≤ (j : Int)
  · rw [if_pos h1, if_pos (by omega)]
  · rw [if_neg h1, if_neg (by omega)]
theorem RP.set0 {W2 : World} {g : Nat} {k n : Int} {dv cv : Value} {wr : World} (h : RP W2 g k n dv cv wr) (k' : Int) : RP W2 g k' n dv cv (wr.setCell ⟨g, 0, none⟩ (.int .i64 k')) :=
  ⟨h.box.set_ 0 _, ⟨h.gr.os, h.gr.tape, h.gr.output, by have := h.gr.size; simpa using this, fun b hb hn => (Below.heap_setCell wr ⟨g, 0, none⟩ _ b (fun e => hn (by rw [e]))).trans (h.gr.block b hb hn)⟩⟩
theorem RP.set1 {W2 : World} {g : Nat} {k n : Int} {dv cv : Value} {wr : World} (h : RP W2 g k n dv cv wr) (n' : Int) : RP W2 g k n' dv cv (wr.setCell ⟨g, 1, none⟩ (.int .i64 n')) :=
  ⟨h.box.set_ 1 _, ⟨h.gr.os, h.gr.tape, h.gr.output, by have := h.gr.size; simpa using this, fun b hb hn => (Below.heap_setCell wr ⟨g, 1, none⟩ _ b (fun e => hn (by rw [e]))).trans (h.gr.block b hb hn)⟩⟩
/-- What stands behind the loop over the words' names. -/
structure RQ (w W2 : World) (A1 : Option Addr) (c1 g : Nat) (x : Bs) (ws : List Bs) : Prop where
  bel : Below w.heap.size w W2
  gW : w.heap.size + 2 ≤ g
  gl : g < W2.heap.size
  res : Blk W2 w.heap.size 26 opZ
  nam : Blk W2 (g - 1) 9 namesA
  sn : Sn W2 1 (.slice A1 (ws.length + 1) c1) (ws.length + 1) (strC (x :: ws))
  adr : ∀ a, A1 = some a → a.block < g

set_option maxRecDepth 100000 in
set_option maxHeartbeats 8000000 in
theorem refParse_any (s : Bs) (w : World) (hs : s.length ≤ 100000000) :
    Calls Tryd.prog 10 #[.string (SB s)] w fun e w' => ∃ v, e = .returned (.tuple #[v, .bool (parseL s).isSome]) ∧ OpN w' w.heap.size v ((parseL s).getD op0) ∧ Below w.heap.size w w' := by
  have HP := Lib.hid (refOp_parse s)
  obtain ⟨x, ws, hsp⟩ := split_form 32 s
  have HW := Lib.hid (fun w1 => words_any s w1 hs)
  rw [hsp] at HW HP
  have HP : Hid (refOp (kindOf x) ws = parseL s) := Lib.hid HP.out
  have hwl : ws.length + 1 ≤ s.length + 1 := by have := split_len 32 s; rw [hsp] at this; simpa using this
  have hxl : x.length ≤ s.length := split_mem_len 32 s x (by rw [hsp]; simp)
  have HWL := Lib.hid (fun y (hy : y ∈ ws) => split_mem_len 32 s y (by rw [hsp]; simp [hy]))
  clear hsp
  obtain ⟨S, hS⟩ : ∃ S, S = SB s := ⟨_, rfl⟩
  rw [← hS] at HW ⊢
  clear hS
  go_enter Tryd.func10, Tryd.ntmps10
  go_wp2_with (go_at_call 25; refine (HW.out _).mono ?_; rintro e w1 ⟨v1, rfl, hv1, hb1⟩; obtain ⟨A1, c1, rfl, hs1, hA1⟩ := own_sn hv1; have HS1 := Lib.hid hs1; have HA1 := Lib.hid (fun a (e : A1 = some a) => (hv1.lt a.block (by rw [e]; rfl)).2); have HB1 := Lib.hid (bstep (bel1 _ _) hb1); have HR1 := Lib.hid ((Blk.new w 26 opZ).keep hb1); clear hv1 hs1 hA1 hb1)
  have HRQ : Hid (RQ w ((w1.alloc (.cells namesA 9)).alloc (.cells opZ 26)) A1 c1 (w1.heap.size + 1) x ws) := Lib.hid ⟨bstep HB1.out (bstep (bel1 _ _) (bel1 _ _)), by have := HR1.out.lt; omega, by simp, (HR1.out.alloc _).alloc _, (Blk.new _ _ _).alloc _, (HS1.out.alloc _).alloc _, fun a e => by have := HA1.out a e; omega⟩
  have HRP0 : Hid (RP ((w1.alloc (.cells namesA 9)).alloc (.cells opZ 26)) (w1.heap.size + 1) 0 0 (.slice none 0 0) (.slice none 0 0) ((w1.alloc (.cells namesA 9)).alloc (.cells opZ 26))) := Lib.hid ⟨Blk.newAt _ _ _ _ (by simp), World.grownBy.refl _ _⟩
  obtain ⟨g, hg⟩ : ∃ g, g = w1.heap.size + 1 := ⟨_, rfl⟩
  have hg1 : w1.heap.size = g - 1 := by omega
  obtain ⟨W2, hW2⟩ : ∃ W2, W2 = (w1.alloc (.cells namesA 9)).alloc (.cells opZ 26) := ⟨_, rfl⟩
  rw [← hg, ← hW2] at HRQ HRP0
  have HE : Hid (W2 = (w1.alloc (.cells namesA 9)).alloc (.cells opZ 26)) := Lib.hid hW2
  rw [← hg, hg1]
  clear hW2 hg hg1 HB1 HR1 HS1 HA1
  have hk := kindOf_range x
  obtain ⟨K, hK⟩ : ∃ K, K = kindOf x := ⟨_, rfl⟩
  have HKE := Lib.hid (fun j (h : j < 6) => kind_eq x j h)
  rw [← hK] at hk HP HKE
  clear hK
  obtain ⟨b0, o0, rfl, _⟩ := sn_head HRQ.out.sn
  have hgN := HRQ.out.gW
  have hgL := HRQ.out.gl
  go_loopw [7] (fun i wr => ∃ j : Nat, j ≤ 6 ∧ i = .int .i64 j ∧ Hid (RP W2 g (kTo j K) 0 (.slice none 0 0) (.slice none 0 0) wr)) (fun i _ => 6 - (intOf i).toNat)
  case atStart => exact ⟨0, by omega, rfl, Lib.hid (by show RP W2 g (kTo 0 K) 0 _ _ ((w1.alloc (.cells namesA 9)).alloc (.cells opZ 26)); rw [← HE.out]; have h := HRP0.out; rw [show kTo 0 K = 0 by unfold kTo; split <;> omega]; exact h)⟩
  case round =>
    obtain ⟨j, hj, rfl, HR⟩ := hrel
    rcases Nat.lt_or_ge j 6 with hlt | hge
    · have hres := sn_head (HR.out.sn HRQ.out.sn HRQ.out.adr HRQ.out.gl)
      obtain ⟨b1, o1, e1, hx0⟩ := hres
      injection e1 with e1
      injection e1 with e2 e3 _
      rw [← e2, ← e3] at hx0
      clear e2 e3
      have hnm := (show Blk wr (g - 1) 9 namesA from (HR.out.blk (by omega) (by omega)).trans HRQ.out.nam).cell j
      rw [names_at j hlt] at hnm
      have hj0 : (0 : Int) ≤ j := by omega
      have hj1 : (j : Int) < 6 := by omega
      have HTE := Lib.hid (SB_eq x (wordL ((j : Int) + 1)))
      have HKJ := Lib.hid (HKE.out j hlt)
      obtain ⟨NM, hNM⟩ : ∃ NM, NM = wordL ((j : Int) + 1) := ⟨_, rfl⟩
      rw [← hNM] at HTE HKJ hnm
      obtain ⟨X, hX⟩ : ∃ X, X = SB x := ⟨_, rfl⟩
      obtain ⟨N, hN⟩ : ∃ N, N = SB NM := ⟨_, rfl⟩
      rw [← hX, ← hN] at HTE
      rw [← hX] at hx0
      rw [← hN] at hnm
      clear hNM hX hN
      have hc0 := HR.out.box.cell 0
      have hf0 := HR.out.box.frozen 0
      simp only [List.getElem?_toArray, List.getElem?_cons_zero, List.getElem?_cons_succ] at hc0
      rcases Bool.eq_false_or_eq_true (X.toList == N.toList) with hT | hT
      · have HKK : Hid (K = (j : Int) + 1) := Lib.hid (HKJ.out.1 (of_decide_eq_true (by rw [← HTE.out, hT])))
        go_wp2_with fail
        go_quiet (fail)
        go_wp2_with fail
        exact ⟨⟨j + 1, by omega, by go_num, Lib.hid (by rw [kTo_hit HKK.out]; exact (HR.out.drewN _).set0 _)⟩, by simp [intOf]; omega⟩
      · have HKK : Hid (K ≠ (j : Int) + 1) := Lib.hid (fun e => absurd (HKJ.out.2 e) (of_decide_eq_false (by rw [← HTE.out, hT])))
        go_wp2_with fail
        go_quiet (fail)
        go_wp2_with fail
        exact ⟨⟨j + 1, by omega, by go_num, Lib.hid (by rw [kTo_miss HKK.out]; exact HR.out.drewN _)⟩, by simp [intOf]; omega⟩
    · obtain rfl : j = 6 := by omega
      have HR6 : Hid (RP W2 g K 0 (.slice none 0 0) (.slice none 0 0) wr) := Lib.hid (by have h := HR.out; rw [show kTo 6 K = K by unfold kTo; rw [if_pos (by omega)]] at h; exact h)
      clear HR HKE HE HRP0 HW
      obtain ⟨A2, c2, htl, hts, hta⟩ := tail_str (A := some ⟨b0, o0, none⟩) (n := ws.length) (ca := c1)
      have HSN2 : Hid (Sn W2 1 (.slice A2 ws.length c2) ws.length (strC ws)) := Lib.hid (hts W2 x ws HRQ.out.sn)
      have HAD2 : Hid (∀ a, A2 = some a → a.block < g) := Lib.hid (fun a e => by obtain ⟨a', e', h⟩ := hta a e; rw [← h]; exact HRQ.out.adr a' e')
      clear hts hta
      have hz : ∀ w, (zeroValue 26).run Tryd.prog w = .ok (.agg opZ) w := fun w => by kernel_rfl
      have hc0 := HR6.out.box.cell 0
      simp only [List.getElem?_toArray, List.getElem?_cons_zero, List.getElem?_cons_succ] at hc0
      go_upto_region 10 with (fail)
      generalize ((6 : Nat) : Int) = j6
      go_cut [39] (fun t wx => ∃ nb : Bool, t = .bool nb ∧ wx = wr ∧ Hid (nb = decide (K = 1 ∨ 5 ≤ K)))
      case first => as_aux_lemma =>
        rcases Bool.eq_false_or_eq_true (K == 1) with t1 | t1
        · go_wp2_with fail
          go_meet
          exact ⟨true, rfl, rfl, Lib.hid (by have := beq_iff_eq.1 t1; simp [this])⟩
        rcases Bool.eq_false_or_eq_true (decide (5 ≤ K)) with t2 | t2
        · go_wp2_with fail
          go_meet
          exact ⟨true, rfl, rfl, Lib.hid (by have := of_decide_eq_true t2; simp [this])⟩
        · go_wp2_with fail
          go_meet
          exact ⟨false, rfl, rfl, Lib.hid (by have h1 := of_decide_eq_false t2; have h2 := beq_eq_false_iff_ne.1 t1; simp; omega)⟩
      case rest =>
      obtain ⟨nb, rfl, hwx, HNB⟩ := hcut
      rw [hwx]
      clear hwx
      have HRES : Hid (Blk wr w.heap.size 26 opZ) := Lib.hid ((HR6.out.blk (by omega) (by omega)).trans HRQ.out.res)
      have HBEL : Hid (Below w.heap.size w wr) := Lib.hid (HR6.out.bel HRQ.out.bel (by omega) (by omega))
      go_upto_if 39 with (fail)
      go_cut [4] (fun v4 wx => ∃ (n : Int) (A3 : Option Addr) (c3 : Nat) (ws3 : List Bs), v4 = .slice A3 ws3.length c3 ∧ Hid (RP W2 g K n (.slice none 0 0) (.slice none 0 0) wx) ∧ Hid (Sn W2 1 (.slice A3 ws3.length c3) ws3.length (strC ws3)) ∧ Hid (∀ a, A3 = some a → a.block < g) ∧ Hid (numF K ws = some (n, ws3)) ∧ Hid (∀ y ∈ ws3, y ∈ ws) ∧ Hid (ws3.length ≤ ws.length))
      case first => as_aux_lemma =>
        cases nb with
        | false =>
          go_wp2_with fail
          go_meet
          exact ⟨0, A2, c2, ws, rfl, HR6, HSN2, HAD2, Lib.hid (numF_two ws (by have := HNB.out.symm; simpa using of_decide_eq_false this)), Lib.hid (fun _ h => h), Lib.hid (Nat.le_refl _)⟩
        | true =>
          have HN1 : Hid (numF K ws = numY ws) := Lib.hid (numF_one ws (of_decide_eq_true HNB.out.symm))
          cases ws with
          | nil =>
            have HF : Hid (parseL s = none) := Lib.hid (by rw [← HP.out]; unfold refOp; rw [HN1.out]; rfl)
            go_wp2_with (first
              | (refine stBlk 26 (.tmp 2) (.tmp 50) rfl rfl (by rfl) (by rfl) (HRES.out) (by kernel_rfl) rfl (opRow_one _ _ _ _ _ _ _ _) ?_; intro wE hE1 hE2 _ _; have HE1 := Lib.hid hE1; have HE2 := Lib.hid hE2; clear hE1 hE2))
            exact bodyPost_ret (results_cellR_tmp rfl _ rfl HE1.out.range Tryd.underlying26 rfl (by kernel_rfl)) rfl ⟨_, by rw [HF.out]; rfl, by rw [HF.out]; exact OpN.zero _ _, (HBEL.out).trans HE2.out⟩
          | cons y r =>
            obtain ⟨b2, o2, rfl, hy2⟩ := sn_head HSN2.out
            have hy0 : wr.cell? ⟨b2, o2, none⟩ = some (.string (SB y)) := (World.cell?_of_block (a := ⟨b2, o2, none⟩) (HR6.out.blk (Nat.lt_trans (show b2 < g from HAD2.out _ rfl) hgL) (Nat.ne_of_lt (show b2 < g from HAD2.out _ rfl)))).trans hy2
            clear hy2
            have hyl : y.length ≤ s.length := HWL.out y (by simp)
            have HNU := Lib.hid (fun w1 => number_any y w1 (by omega))
            obtain ⟨u, hu⟩ : ∃ u, u = refNum y := ⟨_, rfl⟩
            obtain ⟨Y, hY⟩ : ∃ Y, Y = SB y := ⟨_, rfl⟩
            rw [← hu, ← hY] at HNU
            rw [← hY] at hy0
            have HN2 : Hid (numF K (y :: r) = if u < 0 then none else some (u, r)) := Lib.hid (by rw [HN1.out, hu]; rfl)
            clear hu hY hyl
            rcases Bool.eq_false_or_eq_true (decide (u < 0)) with t3 | t3
            · have HF : Hid (parseL s = none) := Lib.hid (by rw [← HP.out]; unfold refOp; rw [HN2.out, if_pos (of_decide_eq_true t3)]; rfl)
              go_wp2_with (first
                | (go_at_call 26; refine (HNU.out _).mono ?_; rintro e w' ⟨rfl, hw'⟩; rw [hw']; clear hw')
                | (refine stBlk 26 (.tmp 2) (.tmp 50) rfl rfl (by rfl) (by rfl) (HRES.out) (by kernel_rfl) rfl (opRow_one _ _ _ _ _ _ _ _) ?_; intro wE hE1 hE2 _ _; have HE1 := Lib.hid hE1; have HE2 := Lib.hid hE2; clear hE1 hE2))
              exact bodyPost_ret (results_cellR_tmp rfl _ rfl HE1.out.range Tryd.underlying26 rfl (by kernel_rfl)) rfl ⟨_, by rw [HF.out]; rfl, by rw [HF.out]; exact OpN.zero _ _, (HBEL.out).trans HE2.out⟩
            · obtain ⟨A3, c3, htl3, hts3, hta3⟩ := tail_str (A := some ⟨b2, o2, none⟩) (n := r.length) (ca := c2)
              have HSN3 : Hid (Sn W2 1 (.slice A3 r.length c3) r.length (strC r)) := Lib.hid (hts3 W2 y r HSN2.out)
              have HAD3 : Hid (∀ a, A3 = some a → a.block < g) := Lib.hid (fun a e => by obtain ⟨a', e', h⟩ := hta3 a e; rw [← h]; exact HAD2.out a' e')
              clear hts3 hta3
              have hc1 := HR6.out.box.cell 1
              have hf1 := HR6.out.box.frozen 1
              simp only [List.getElem?_toArray, List.getElem?_cons_zero, List.getElem?_cons_succ] at hc1
              go_wp2_with (go_at_call 26; refine (HNU.out _).mono ?_; rintro e w' ⟨rfl, hw'⟩; rw [hw']; clear hw')
              go_meet
              exact ⟨u, A3, c3, r, rfl, Lib.hid (HR6.out.set1 u), HSN3, HAD3, Lib.hid (by rw [HN2.out, if_neg (of_decide_eq_false t3)]), Lib.hid (fun _ h => by simp [h]), Lib.hid (by simp)⟩
      case rest =>
      obtain ⟨n, A3, c3, ws3, rfl, HR7, HSN3, HAD3, HNF, HMEM, HLEN⟩ := hcut
      obtain ⟨wd, rfl⟩ : ∃ wd : World, wd = wc := ⟨_, rfl⟩
      clear HR6 HSN2 HAD2 HNB htl hc0 HRES HBEL
      have hc0 := HR7.out.box.cell 0
      simp only [List.getElem?_toArray, List.getElem?_cons_zero, List.getElem?_cons_succ] at hc0
      go_upto_region 15 with (fail)
      go_cut [65] (fun t wx => ∃ db : Bool, t = .bool db ∧ wx = wd ∧ Hid (db = decide (K = 3 ∧ ws3 ≠ [])))
      case first => as_aux_lemma =>
        rcases Bool.eq_false_or_eq_true (K == 3) with t1 | t1
        · cases ws3 with
          | nil =>
            go_wp2_with fail
            go_meet
            exact ⟨false, rfl, rfl, Lib.hid (by simp)⟩
          | cons y r =>
            have hl1 : decide ((0 : Int) < (((y :: r).length : Nat) : Int)) = true := by simp
            have hl2 : decide (0 < (y :: r).length) = true := by simp
            go_wp2_with fail
            go_meet
            exact ⟨true, rfl, rfl, Lib.hid (by have := beq_iff_eq.1 t1; simp [this])⟩
        · go_wp2_with fail
          go_meet
          exact ⟨false, rfl, rfl, Lib.hid (by have h2 := beq_eq_false_iff_ne.1 t1; simp [h2])⟩
      case rest =>
      obtain ⟨db, rfl, hwx, HDB⟩ := hcut
      rw [hwx]
      clear hwx
      have HRES : Hid (Blk wd w.heap.size 26 opZ) := Lib.hid ((HR7.out.blk (by omega) (by omega)).trans HRQ.out.res)
      have HBEL : Hid (Below w.heap.size w wd) := Lib.hid (HR7.out.bel HRQ.out.bel (by omega) (by omega))
      go_upto_if 65 with (fail)
      go_cut [4] (fun v5 wx => ∃ (D : Bs) (A4 : Option Addr) (c4 : Nat) (ws4 : List Bs) (dA : Option Addr) (dc : Nat), v5 = .slice A4 ws4.length c4 ∧ Hid (RP W2 g K n (.slice dA D.length dc) (.slice none 0 0) wx) ∧ Hid (Sn wx 1 (.slice dA D.length dc) D.length (Lib.byteCells D)) ∧ Hid (∀ a, dA = some a → W2.heap.size ≤ a.block ∧ a.block < wx.heap.size) ∧ Hid (Sn W2 1 (.slice A4 ws4.length c4) ws4.length (strC ws4)) ∧ Hid (∀ a, A4 = some a → a.block < g) ∧ Hid (datF K ws3 = some (D, ws4)) ∧ Hid (∀ y ∈ ws4, y ∈ ws) ∧ Hid (ws4.length ≤ ws.length) ∧ Hid (D.length ≤ 100000000))
      case first => as_aux_lemma =>
        cases db with
        | false =>
          go_wp2_with fail
          go_meet
          exact ⟨[], A3, c3, ws3, none, 0, rfl, HR7, Lib.hid (Sn.nil1 _ _), Lib.hid (fun _ h => by cases h), HSN3, HAD3, Lib.hid (by
            have h := of_decide_eq_false HDB.out.symm
            by_cases h3 : K = 3
            · have h4 : ws3 = [] := by
                by_cases h5 : ws3 = []
                · exact h5
                · exact absurd ⟨h3, h5⟩ h
              rw [h3, h4]; rfl
            · exact datF_no _ h3), HMEM, HLEN, Lib.hid (by simp)⟩
        | true =>
          have h3 := of_decide_eq_true HDB.out.symm
          obtain ⟨hk3, hne3⟩ := h3
          cases ws3 with
          | nil => exact absurd rfl hne3
          | cons y r =>
            clear hne3
            obtain ⟨b2, o2, rfl, hy2⟩ := sn_head HSN3.out
            have hb2 : b2 < g := HAD3.out _ rfl
            have HY2 := Lib.hid hy2
            have hy0 : wd.cell? ⟨b2, o2, none⟩ = some (.string (SB y)) := (World.cell?_of_block (a := ⟨b2, o2, none⟩) (HR7.out.blk (Nat.lt_trans hb2 hgL) (Nat.ne_of_lt hb2))).trans hy2
            clear hy2
            have hyl : y.length ≤ s.length := HWL.out y (HMEM.out y (by simp))
            have HDF : Hid (datF K (y :: r) = if y = [] then none else (hexB y).map fun d => (d, r)) := Lib.hid (by rw [hk3]; rfl)
            have HFF : Hid (datF K (y :: r) = none → parseL s = none) := Lib.hid (fun h => by rw [← HP.out]; unfold refOp; rw [HNF.out, Option.bind_some, h]; rfl)
            have HK3 := Lib.hid hk3
            clear hk3
            by_cases hye : y = []
            · have HF : Hid (parseL s = none) := Lib.hid (HFF.out (by rw [HDF.out, if_pos hye]))
              have hy1 : wd.cell? ⟨b2, o2, none⟩ = some (.string ⟨#[]⟩) := by rw [hy0, hye]; rfl
              clear hye hy0
              go_wp2_with (first
                | (refine stBlk 26 (.tmp 2) (.tmp 78) rfl rfl (by rfl) (by rfl) (HRES.out) (by kernel_rfl) rfl (opRow_one _ _ _ _ _ _ _ _) ?_; intro wE hE1 hE2 _ _; have HE1 := Lib.hid hE1; have HE2 := Lib.hid hE2; clear hE1 hE2))
              exact bodyPost_ret (results_cellR_tmp rfl _ rfl HE1.out.range Tryd.underlying26 rfl (by kernel_rfl)) rfl ⟨_, by rw [HF.out]; rfl, by rw [HF.out]; exact OpN.zero _ _, (HBEL.out).trans HE2.out⟩
            have HDF2 : Hid (datF K (y :: r) = (hexB y).map fun d => (d, r)) := Lib.hid (by rw [HDF.out, if_neg hye])
            clear HDF
            have hz1 : y.length ≠ 0 := fun e => hye (List.length_eq_zero_iff.1 e)
            clear hye
            have HIX := Lib.hid (idx_at y)
            have HODD : Hid (y.length % 2 = 1 → hexB y = none) := Lib.hid (fun h => hexB_odd _ y (Nat.le_refl _) h)
            obtain ⟨Y, hY⟩ : ∃ Y, Y = SB y := ⟨_, rfl⟩
            have hsz : Y.size = y.length := by rw [hY, SB_size]
            have s1 : Y.toList.isEmpty = false := SB_nonempty (fun e => hz1 (by rw [← hsz, e]; rfl))
            rw [← hY] at hy0 HIX HY2
            clear hY
            obtain ⟨q, hq⟩ : ∃ q : Nat, q = y.length % 2 := ⟨_, rfl⟩
            have y1 : (y.length : Int).tmod 2 = (q : Int) := by rw [Int.tmod_eq_emod_of_nonneg (by omega)]; omega
            have y2 : (y.length : Int) % 2 = (q : Int) := by omega
            have y3 : IntKind.i64.wrap (q : Int) = q := IntWalk.i64_in _ (by omega)
            rcases Bool.eq_false_or_eq_true ((q : Int) == 1) with t2 | t2
            · have HF : Hid (parseL s = none) := Lib.hid (HFF.out (by rw [HDF2.out, HODD.out (by have := beq_iff_eq.1 t2; omega)]; rfl))
              clear hq
              go_wp2_with (first
                | (refine stBlk 26 (.tmp 2) (.tmp 78) rfl rfl (by rfl) (by rfl) (HRES.out) (by kernel_rfl) rfl (opRow_one _ _ _ _ _ _ _ _) ?_; intro wE hE1 hE2 _ _; have HE1 := Lib.hid hE1; have HE2 := Lib.hid hE2; clear hE1 hE2))
              exact bodyPost_ret (results_cellR_tmp rfl _ rfl HE1.out.range Tryd.underlying26 rfl (by kernel_rfl)) rfl ⟨_, by rw [HF.out]; rfl, by rw [HF.out]; exact OpN.zero _ _, (HBEL.out).trans HE2.out⟩
            obtain ⟨h, hh⟩ : ∃ h : Nat, y.length = 2 * h := ⟨y.length / 2, by have := beq_eq_false_iff_ne.1 t2; omega⟩
            clear hq
            have HH := Lib.hid hh
            clear hh
            go_wp2_with fail
            have HDG := Lib.hid dgN_any
            simp only [List.length_cons]
            go_loopw [8] (fun i wr => ∃ (j : Nat) (D : Bs) (dv : Value), j ≤ h ∧ i = .int .i64 ((2 * j : Nat) : Int) ∧ Hid (D.length = j) ∧ Hid (RP W2 g K n dv (.slice none 0 0) wr) ∧ Hid (OwnB wr W2.heap.size dv D) ∧ Hid (hexB y = (hexB (y.drop (2 * j))).map (D ++ ·))) (fun i _ => y.length - (intOf i).toNat)
            case atStart => exact ⟨0, [], .slice none 0 0, Nat.zero_le _, rfl, Lib.hid rfl, HR7, Lib.hid (World.ownsRow_nil _ _ _ _), Lib.hid (by simp)⟩
            case round =>
              obtain ⟨j, D, dv, hj, rfl, hDl, HR, HO, HX⟩ := hrel
              clear hy0
              have hdl : D.length ≤ y.length := by have h1 := hDl.out; have h2 := HH.out; omega
              have hyr : wr.cell? ⟨b2, o2, none⟩ = some (.string Y) := (World.cell?_of_block (a := ⟨b2, o2, none⟩) (HR.out.blk (Nat.lt_trans hb2 hgL) (Nat.ne_of_lt hb2))).trans HY2.out
              have HRES2 : Hid (Blk wr w.heap.size 26 opZ) := Lib.hid ((HR.out.blk (by omega) (by omega)).trans HRQ.out.res)
              have HBEL2 : Hid (Below w.heap.size w wr) := Lib.hid (HR.out.bel HRQ.out.bel (by omega) (by omega))
              rcases Nat.lt_or_ge j h with hlt | hge
              · have hh1 : 2 * j + 1 < y.length := by have := HH.out; omega
                have hdr := drop_two (s := y) (j := j) hh1
                have hx0 := HIX.out (2 * j) (by omega)
                have hx1 := HIX.out (2 * j + 1) (by omega)
                obtain ⟨p1, hp1⟩ : ∃ p1, p1 = y[2 * j] := ⟨_, rfl⟩
                obtain ⟨p2, hp2⟩ : ∃ p2, p2 = y[2 * j + 1] := ⟨_, rfl⟩
                rw [← hp1] at hx0 hdr
                rw [← hp2] at hx1 hdr
                clear hp1 hp2
                have HX2 : Hid (hexB y = (if digV p1 ≤ 15 ∧ digV p2 ≤ 15 then (hexB (y.drop (2 * (j + 1)))).map (UInt8.ofNat (digV p1 * 16 + digV p2) :: ·) else none).map (D ++ ·)) := Lib.hid (by rw [HX.out, hdr]; rfl)
                clear hdr
                obtain ⟨z1, hz1⟩ : ∃ z1, z1 = p1.toNat := ⟨_, rfl⟩
                obtain ⟨z2, hz2⟩ : ∃ z2, z2 = p2.toNat := ⟨_, rfl⟩
                have hl1 : z1 < 256 := by rw [hz1]; exact UInt8.toNat_lt p1
                have hl2 : z2 < 256 := by rw [hz2]; exact UInt8.toNat_lt p2
                have e1 : digV p1 = dgN z1 := by unfold dgN; rw [hz1, UInt8.ofNat_toNat]
                have e2 : digV p2 = dgN z2 := by unfold dgN; rw [hz2, UInt8.ofNat_toNat]
                rw [← hz1] at hx0
                rw [← hz2] at hx1
                have HX3 := HX2
                rw [e1, e2] at HX3
                clear hz1 hz2 e1 e2 HX2
                have hm1 := dgN_le z1
                have hm2 := dgN_le z2
                obtain ⟨p, hp⟩ : ∃ p, p = ((2 * j : Nat) : Int) := ⟨_, rfl⟩
                have hpn : ((2 * j + 1 : Nat) : Int) = p + 1 := by omega
                rw [← hp] at hx0 ⊢
                rw [hpn] at hx1
                have hp0 : 0 ≤ p := by omega
                have hp3 : p + 1 < (y.length : Int) := by omega
                have t5 : decide (p < (y.length : Int)) = true := by simp; omega
                have y5 : IntKind.i64.wrap (p + 1) = p + 1 := IntWalk.i64_in _ (by omega)
                have y6 : IntKind.i64.wrap (p + 2) = p + 2 := IntWalk.i64_in _ (by omega)
                have y7 : IntKind.i64.wrap (16 * (dgN z1 : Int)) = 16 * (dgN z1 : Int) := IntWalk.i64_in _ (by omega)
                have y8 : IntKind.i64.wrap (16 * (dgN z1 : Int) + (dgN z2 : Int)) = 16 * (dgN z1 : Int) + (dgN z2 : Int) := IntWalk.i64_in _ (by omega)
                have HPP := Lib.hid hp
                clear hp hpn
                go_wp2_with fail
                go_quiet ((go_at_call 27; exact Calls.quiet_of_same (HDG.out _ (by assumption) _)))
                have HFAIL : Hid (¬ (dgN z1 ≤ 15 ∧ dgN z2 ≤ 15) → parseL s = none) := Lib.hid (fun hn => HFF.out (by rw [HDF2.out, HX3.out, if_neg hn]; rfl))
                rcases Bool.eq_false_or_eq_true (decide ((15 : Int) < (dgN z1 : Int))) with t6 | t6
                · have HF := Lib.hid (HFAIL.out (by have := of_decide_eq_true t6; omega))
                  go_wp2_with (first
                    | (go_at_call 27; refine (HDG.out _ (by assumption) _).mono ?_; rintro e w' ⟨rfl, hw'⟩; rw [hw']; clear hw')
                    | (refine stBlk 26 (.tmp 2) (.tmp 119) rfl rfl (by rfl) (by rfl) (HRES2.out.drewN _) (by kernel_rfl) rfl (opRow_one _ _ _ _ _ _ _ _) ?_; intro wE hE1 hE2 _ _; have HE1 := Lib.hid hE1; have HE2 := Lib.hid hE2; clear hE1 hE2))
                  exact bodyPost_ret (results_cellR_tmp rfl _ rfl HE1.out.range Tryd.underlying26 rfl (by kernel_rfl)) rfl ⟨_, by rw [HF.out]; rfl, by rw [HF.out]; exact OpN.zero _ _, (bdrewN HBEL2.out _).trans HE2.out⟩
                rcases Bool.eq_false_or_eq_true (decide ((15 : Int) < (dgN z2 : Int))) with t7 | t7
                · have HF := Lib.hid (HFAIL.out (by have := of_decide_eq_true t7; omega))
                  go_wp2_with (first
                    | (go_at_call 27; refine (HDG.out _ (by assumption) _).mono ?_; rintro e w' ⟨rfl, hw'⟩; rw [hw']; clear hw')
                    | (refine stBlk 26 (.tmp 2) (.tmp 119) rfl rfl (by rfl) (by rfl) (HRES2.out.drewN _) (by kernel_rfl) rfl (opRow_one _ _ _ _ _ _ _ _) ?_; intro wE hE1 hE2 _ _; have HE1 := Lib.hid hE1; have HE2 := Lib.hid hE2; clear hE1 hE2))
                  exact bodyPost_ret (results_cellR_tmp rfl _ rfl HE1.out.range Tryd.underlying26 rfl (by kernel_rfl)) rfl ⟨_, by rw [HF.out]; rfl, by rw [HF.out]; exact OpN.zero _ _, (bdrewN HBEL2.out _).trans HE2.out⟩
                have hn1 : dgN z1 ≤ 15 := by have := of_decide_eq_false t6; omega
                have hn2 : dgN z2 ≤ 15 := by have := of_decide_eq_false t7; omega
                obtain ⟨c, hc⟩ : ∃ c : UInt8, c = UInt8.ofNat (dgN z1 * 16 + dgN z2) := ⟨_, rfl⟩
                have k3 : IntKind.u8.wrap (16 * (dgN z1 : Int) + (dgN z2 : Int)) = (c.toNat : Int) := by rw [hc, ofNat_toNat (by omega)]; unfold IntKind.wrap; simp [IntKind.signed, IntKind.bits]; omega
                have HX4 : Hid (hexB y = (hexB (y.drop (2 * (j + 1)))).map (D ++ [c] ++ ·)) := Lib.hid (by rw [HX3.out, if_pos ⟨hn1, hn2⟩, ← hc, Option.map_map]; congr 1; funext l; simp)
                clear hc hn1 hn2 HFAIL HX3
                have hc2 := HR.out.box.cell 2
                simp only [List.getElem?_toArray, List.getElem?_cons_zero, List.getElem?_cons_succ] at hc2
                have hszr := HR.out.gr.size
                have HDO : Hid (∀ b, dv.ownBlock = some b → W2.heap.size ≤ b) := Lib.hid (fun b e => (World.ownsRow.lt HO.out b e).1)
                go_wp2_with (first
                  | (go_at_call 27; refine (HDG.out _ (by assumption) _).mono ?_; rintro e w' ⟨rfl, hw'⟩; rw [hw']; clear hw')
                  | (at_builtin; refine app tByt (.tmp 121) (.tmp 124) rfl rfl (by rfl) (World.ownsRow.alloc (w := wr.drewN nq) HO.out _) (by rfl) (Sn.new (wr.drewN nq) (Lib.byteCells [c]).toArray 5 1 1 rfl) (byteCells_one [c]) (by unfold maxLen; omega) (by omega) (by simp; omega) ?_; intro v3 w3 hown hgrow _; rw [List.toList_toArray, ← byteCells_append] at hown; obtain ⟨a3, q3, hv3, _, _⟩ := own_sn hown; subst hv3; obtain ⟨hb3, hr3⟩ := HR.out.app2 hgL nq _ hgrow HDO.out; have HO3 := Lib.hid hown; have HR3 := Lib.hid hr3; have hc23 := hb3.cell 2; have hf23 := hb3.frozen 2; simp only [List.getElem?_toArray, List.getElem?_cons_zero, List.getElem?_cons_succ] at hc23; clear hown hgrow hb3 hr3))
                exact ⟨⟨j + 1, D ++ [c], .slice a3 (D.length + 1) q3, by omega, by rw [HPP.out]; congr 1, Lib.hid (by have := hDl.out; simp; omega), Lib.hid (HR3.out _), Lib.hid (by unfold OwnB; rw [List.length_append]; exact own_far HO3.out hgL 2 _), HX4⟩, by rw [HPP.out]; simp [intOf]; omega⟩
              · obtain rfl : j = h := by omega
                have hx := HX.out
                have hh2 : y.length ≤ 2 * j := by have := HH.out; omega
                rw [show y.drop (2 * j) = [] from List.drop_eq_nil_of_le hh2] at hx
                have HN : Hid (datF K (y :: r) = some (D, r)) := Lib.hid (by rw [HDF2.out, hx]; simp [hexB])
                clear hx
                have t5 : decide (((2 * j : Nat) : Int) < (y.length : Int)) = false := by simp; omega
                have t6 : decide (2 * j < y.length) = false := by simp; omega
                obtain ⟨A5, c5, htl, hts, hta⟩ := tail_str (A := some ⟨b2, o2, none⟩) (n := r.length) (ca := c3)
                have HSN5 : Hid (Sn W2 1 (.slice A5 r.length c5) r.length (strC r)) := Lib.hid (hts W2 y r HSN3.out)
                have HAD5 : Hid (∀ a, A5 = some a → a.block < g) := Lib.hid (fun a e => by obtain ⟨a', e', h⟩ := hta a e; rw [← h]; exact HAD3.out a' e')
                clear hts hta
                obtain ⟨dA, dc, hdv, hds, hdA⟩ := own_sn HO.out
                subst hdv
                have HDS := Lib.hid hds
                have HDA : Hid (∀ a, dA = some a → W2.heap.size ≤ a.block ∧ a.block < wr.heap.size) := Lib.hid (fun a e => World.ownsRow.lt HO.out a.block (by rw [e]; rfl))
                clear hds hdA
                go_wp2_with fail
                go_meet
                exact ⟨D, A5, c5, r, dA, dc, rfl, HR, HDS, HDA, HSN5, HAD5, HN, Lib.hid (fun z hz => HMEM.out z (by simp [hz])), Lib.hid (by have := HLEN.out; simp at this; omega), Lib.hid (by have := HH.out; omega)⟩
      case rest =>
      obtain ⟨D, A4, c4, ws4, dA, dc, rfl, HR8, HDS, HDA, HSN4, HAD4, HDT, HMEM4, HLEN4, HDL⟩ := hcut
      obtain ⟨we, rfl⟩ : ∃ we : World, we = wc := ⟨_, rfl⟩
      have HSW := Lib.hid (HR8.out.sn HSN4.out HAD4.out hgL)
      have hgE : g < we.heap.size := Nat.lt_of_lt_of_le hgL HR8.out.gr.size
      have HR9 : Hid (RP we g K n (.slice dA D.length dc) (.slice none 0 0) we) := Lib.hid ⟨HR8.out.box, World.grownBy.refl _ _⟩
      have HFIN : Hid (parseL s = right? (some ⟨K, n, D, ws4.map refNum⟩)) := Lib.hid (by rw [← HP.out]; unfold refOp; rw [HNF.out, Option.bind_some, HDT.out, Option.bind_some])
      have HBE : Hid (Below w.heap.size w we) := Lib.hid (HR8.out.bel HRQ.out.bel (by omega) hgL)
      have HREE : Hid (Blk we w.heap.size 26 opZ) := Lib.hid ((HR8.out.blk (by omega) (by omega)).trans HRQ.out.res)
      have hwl4 : ws4.length ≤ 100000000 := by have := HLEN4.out; omega
      have HNA := Lib.hid (fun (z : Bs) (hz : z ∈ ws4) (w1 : World) => number_any z w1 (by have := HWL.out z (HMEM4.out z hz); omega))
      clear HR7 HSN3 HAD3 HDB HRES HBEL hc0 HR8 HSN4 HMEM HLEN HNF HDT HMEM4 HLEN4
      go_wp2_with fail
      go_loopw [10] (fun i wr => ∃ (j : Nat) (A5 : Option Addr) (c5 : Nat), j ≤ ws4.length ∧ i = .int .i64 (j : Int) ∧ Hid (RP we g K n (.slice dA D.length dc) (.slice A5 j c5) wr) ∧ Hid (wr.ownsRow we.heap.size 3 1 (.slice A5 j c5) j (intC ((ws4.take j).map refNum)))) (fun i _ => ws4.length - (intOf i).toNat)
      case atStart => exact ⟨0, none, 0, Nat.zero_le _, rfl, HR9, Lib.hid (World.ownsRow_nil _ _ _ _)⟩
      case round =>
        obtain ⟨j, A5, c5, hj, rfl, HR, HO⟩ := hrel
        have hszr := HR.out.gr.size
        rcases Nat.lt_or_ge j ws4.length with hlt | hge
        · obtain ⟨b4, o4, rfl, _⟩ := sn_at HSW.out j hlt
          have HCE : Hid (∀ wX, SR we g K n (.slice dA D.length dc) wX → wX.cell? ⟨b4, o4 + j, none⟩ = some (.string (SB ws4[j]))) := Lib.hid (fun wX hX => by
            obtain ⟨cv, hX⟩ := hX
            obtain ⟨b, off, e, h⟩ := sn_at (hX.sn HSW.out HAD4.out hgE) j hlt
            injection e with e
            injection e with e1 e2
            rw [← e1, ← e2] at h
            exact h)
          have HNU := Lib.hid (fun w1 => HNA.out ws4[j] (List.getElem_mem hlt) w1)
          have HTK : Hid ((ws4.take (j + 1)).map refNum = (ws4.take j).map refNum ++ [refNum ws4[j]]) := Lib.hid (by rw [List.take_succ_eq_append_getElem hlt, List.map_append]; rfl)
          obtain ⟨Y, hY⟩ : ∃ Y, Y = SB ws4[j] := ⟨_, rfl⟩
          obtain ⟨u, hu⟩ : ∃ u, u = refNum ws4[j] := ⟨_, rfl⟩
          rw [← hY] at HCE HNU
          rw [← hu] at HNU HTK
          clear hY hu
          have HCO : Hid (∀ b, (Value.slice A5 j c5).ownBlock = some b → we.heap.size ≤ b) := Lib.hid (fun b e => (World.ownsRow.lt HO.out b e).1)
          have hj0 : (0 : Int) ≤ j := by omega
          have hj1 : (j : Int) < ws4.length := by omega
          have HC31 : Hid (wr.drew.cell? ⟨g, 3, none⟩ = some (.slice A5 j c5)) := Lib.hid ((HR.out.drewN 1).box.cell 3)
          have HC32 : Hid ((wr.alloc (.cells #[.int .i64 u] 3)).drew.cell? ⟨g, 3, none⟩ = some (.slice A5 j c5)) := Lib.hid (((HR.out.drewN 1).alloc hgE _).box.cell 3)
          go_wp2_with fail
          refine held_start 11 (SR we g K n (.slice dA D.length dc)) (by kernel_rfl) (by kernel_rfl) (⟨_, HR.out.drewN 1⟩) (fun hHeld => ?_)
          refine hTake 0 (Op.fieldAddr 26 (Operand.tmp 6) 3) (some 135) (.pointer (some ⟨g, 3, none⟩)) (by kernel_rfl) (by kernel_rfl) (by kernel_rfl) (by kernel_rfl) (by kernel_rfl) (fun _ _ _ h => h) (fun o ho wX hX => by unfold execOp; simp only [ho]; go_simp) hHeld ?_
          simp only [Act.put, List.setIfInBounds_toArray, List.set_cons_zero, List.set_cons_succ]
          refine hMove 2 (Operand.tmp 4) (some 137) (.slice (some ⟨b4, o4, none⟩) ws4.length c4) (by kernel_rfl) (by kernel_rfl) (by kernel_rfl) (by kernel_rfl) (by kernel_rfl) (fun _ _ _ h => h) (by exact rfl) hHeld ?_
          simp only [Act.put, List.setIfInBounds_toArray, List.set_cons_zero, List.set_cons_succ]
          refine hMove 3 (Operand.tmp 10) (some 138) (.int .i64 (j : Int)) (by kernel_rfl) (by kernel_rfl) (by kernel_rfl) (by kernel_rfl) (by kernel_rfl) (fun _ _ _ h => h) (by exact rfl) hHeld ?_
          simp only [Act.put, List.setIfInBounds_toArray, List.set_cons_zero, List.set_cons_succ]
          refine hTake 4 (Op.indexAddr 50 (Operand.tmp 137) (Operand.tmp 138)) (some 139) (.pointer (some ⟨b4, o4 + j, none⟩)) (by kernel_rfl) (by kernel_rfl) (by kernel_rfl) (by kernel_rfl) (by kernel_rfl) (fun _ _ _ h => h) (fun o ho wX hX => by unfold execOp; simp only [ho]; go_simp) hHeld ?_
          simp only [Act.put, List.setIfInBounds_toArray, List.set_cons_zero, List.set_cons_succ]
          refine hTake 5 (Op.load 9 (Operand.tmp 139)) (some 140) (.string Y) (by kernel_rfl) (by kernel_rfl) (by kernel_rfl) (by kernel_rfl) (by kernel_rfl) (fun _ _ _ h => h) (fun o ho wX hX => by have hcell := HCE.out wX hX; unfold execOp; simp only [ho]; go_simp) hHeld ?_
          simp only [Act.put, List.setIfInBounds_toArray, List.set_cons_zero, List.set_cons_succ]
          refine wpAnyH_ready (rs := [1, 6]) (by kernel_rfl) (by simp) ?_
          refine rStep 1 (Op.load 24 (Operand.tmp 135)) (some 136) (.slice A5 j c5) (wr.drew) (by kernel_rfl) (by kernel_rfl) (fun o ho => by have hcell := HC31.out; unfold execOp; simp only [ho]; go_simp) ⟨_, HR.out.drewN 1⟩ ?_ (rCall 6 (Op.call { callee := Callee.value (Operand.func 26), args := #[Operand.tmp 140], argTypes := #[9] }) (some 141) 26 #[.string Y] (by kernel_rfl) (by kernel_rfl) (fun o ho => by unfold execOp; simp only [ho]; go_simp) ?_  AllReadyH.nil)
          · simp only [Act.put, List.setIfInBounds_toArray, List.set_cons_zero, List.set_cons_succ]
            refine wpAnyH_ready (rs := [6]) (by kernel_rfl) (by simp) ?_
            refine rCall 6 (Op.call { callee := Callee.value (Operand.func 26), args := #[Operand.tmp 140], argTypes := #[9] }) (some 141) 26 #[.string Y] (by kernel_rfl) (by kernel_rfl) (fun o ho => by unfold execOp; simp only [ho]; go_simp) ?_  AllReadyH.nil
            refine (HNU.out _).mono ?_
            rintro e wM ⟨rfl, hwM⟩
            rw [hwM]
            refine ⟨_, rfl, ⟨_, HR.out.drewN 1⟩, fun _ => ?_⟩
            simp only [Act.put, List.setIfInBounds_toArray, List.set_cons_zero, List.set_cons_succ]
            refine wpAnyH_ready (rs := [7]) (by kernel_rfl) (by simp) ?_
            refine rStep 7 (Op.buildSlice 24 1 #[(0, Operand.tmp 141)]) (some 142) (.slice (some ⟨wr.heap.size, 0, none⟩) 1 1) ((wr.alloc (.cells #[.int .i64 u] 3)).drew) (by kernel_rfl) (by kernel_rfl) (fun o ho => by unfold execOp; simp only [ho]; go_simp) ⟨_, (HR.out.drewN 1).alloc hgE _⟩ ?_  AllReadyH.nil
            simp only [Act.put, List.setIfInBounds_toArray, List.set_cons_zero, List.set_cons_succ]
            refine wpAnyH_ready (rs := [8]) (by kernel_rfl) (by simp) ?_
            refine rAppR 8 tInt (.tmp 136) (.tmp 142) (some 143) (by kernel_rfl) (by kernel_rfl) (by rfl) (World.ownsRow.alloc (w := wr.drew) HO.out _) (by rfl) (Sn.new wr.drew (intC [u]).toArray 3 1 1 rfl) (intC_one [u]) (by unfold maxLen; omega) (by omega) (by simp; omega) (fun v3 w3 hown hgrow _ => ?_) AllReadyH.nil
            rw [List.toList_toArray, ← intC_append] at hown
            obtain ⟨a3, q3, hv3, _, _⟩ := own_sn hown
            subst hv3
            obtain ⟨hb3, hr3⟩ := HR.out.app3 hgE 1 _ hgrow HCO.out
            have hc33 := hb3.cell 3
            have hf33 := hb3.frozen 3
            simp only [List.getElem?_toArray, List.getElem?_cons_zero, List.getElem?_cons_succ] at hc33
            refine ⟨⟨_, (HR.out.app hgE (grown_alloc wr 1 _) hgrow HCO.out).1, (HR.out.app hgE (grown_alloc wr 1 _) hgrow HCO.out).2⟩, fun hH8 => ?_⟩
            simp only [Act.put, List.setIfInBounds_toArray, List.set_cons_zero, List.set_cons_succ]
            refine hTake 9 (Op.fieldAddr 26 (Operand.tmp 6) 3) (some 144) (.pointer (some ⟨g, 3, none⟩)) (by kernel_rfl) (by kernel_rfl) (by kernel_rfl) (by kernel_rfl) (by kernel_rfl) (fun _ _ _ h => h) (fun o ho wX hX => by unfold execOp; simp only [ho]; go_simp) (by assumption) ?_
            simp only [Act.put, List.setIfInBounds_toArray, List.set_cons_zero, List.set_cons_succ]
            refine wpAnyH_ready (rs := [10]) (by kernel_rfl) (by simp) ?_
            refine rSkipR 10 (Op.store 24 (Operand.tmp 144) (Operand.tmp 143)) none (w3.setCell ⟨g, 3, none⟩ (.slice a3 (j + 1) q3)) (by kernel_rfl) (by kernel_rfl) (fun o ho => by unfold execOp; simp only [ho]; go_simp) ⟨_, hr3 _⟩ ?_ AllReadyH.nil
            simp only [Act.put, List.setIfInBounds_toArray, List.set_cons_zero, List.set_cons_succ]
            refine wpAnyH_done (by kernel_rfl) ?_ _
            have HR3 := Lib.hid hr3
            have HO3 := Lib.hid hown
            clear hown hgrow hb3 hr3 hc33 hf33
            go_wp2_with fail
            exact ⟨⟨j + 1, a3, q3, by omega, by go_num, Lib.hid (HR3.out _), Lib.hid (by rw [HTK.out]; exact own_far HO3.out hgE 3 _)⟩, by simp [intOf]; omega⟩
          · refine (HNU.out _).mono ?_
            rintro e wM ⟨rfl, hwM⟩
            rw [hwM]
            refine ⟨_, rfl, ⟨_, HR.out.drewN 1⟩, fun _ => ?_⟩
            simp only [Act.put, List.setIfInBounds_toArray, List.set_cons_zero, List.set_cons_succ]
            refine wpAnyH_ready (rs := [1, 7]) (by kernel_rfl) (by simp) ?_
            refine rStep 1 (Op.load 24 (Operand.tmp 135)) (some 136) (.slice A5 j c5) (wr.drew) (by kernel_rfl) (by kernel_rfl) (fun o ho => by have hcell := HC31.out; unfold execOp; simp only [ho]; go_simp) ⟨_, HR.out.drewN 1⟩ ?_ (rStep 7 (Op.buildSlice 24 1 #[(0, Operand.tmp 141)]) (some 142) (.slice (some ⟨wr.heap.size, 0, none⟩) 1 1) ((wr.alloc (.cells #[.int .i64 u] 3)).drew) (by kernel_rfl) (by kernel_rfl) (fun o ho => by unfold execOp; simp only [ho]; go_simp) ⟨_, (HR.out.drewN 1).alloc hgE _⟩ ?_  AllReadyH.nil)
            · simp only [Act.put, List.setIfInBounds_toArray, List.set_cons_zero, List.set_cons_succ]
              refine wpAnyH_ready (rs := [7]) (by kernel_rfl) (by simp) ?_
              refine rStep 7 (Op.buildSlice 24 1 #[(0, Operand.tmp 141)]) (some 142) (.slice (some ⟨wr.heap.size, 0, none⟩) 1 1) ((wr.alloc (.cells #[.int .i64 u] 3)).drew) (by kernel_rfl) (by kernel_rfl) (fun o ho => by unfold execOp; simp only [ho]; go_simp) ⟨_, (HR.out.drewN 1).alloc hgE _⟩ ?_  AllReadyH.nil
              simp only [Act.put, List.setIfInBounds_toArray, List.set_cons_zero, List.set_cons_succ]
              refine wpAnyH_ready (rs := [8]) (by kernel_rfl) (by simp) ?_
              refine rAppR 8 tInt (.tmp 136) (.tmp 142) (some 143) (by kernel_rfl) (by kernel_rfl) (by rfl) (World.ownsRow.alloc (w := wr.drew) HO.out _) (by rfl) (Sn.new wr.drew (intC [u]).toArray 3 1 1 rfl) (intC_one [u]) (by unfold maxLen; omega) (by omega) (by simp; omega) (fun v3 w3 hown hgrow _ => ?_) AllReadyH.nil
              rw [List.toList_toArray, ← intC_append] at hown
              obtain ⟨a3, q3, hv3, _, _⟩ := own_sn hown
              subst hv3
              obtain ⟨hb3, hr3⟩ := HR.out.app3 hgE 1 _ hgrow HCO.out
              have hc33 := hb3.cell 3
              have hf33 := hb3.frozen 3
              simp only [List.getElem?_toArray, List.getElem?_cons_zero, List.getElem?_cons_succ] at hc33
              refine ⟨⟨_, (HR.out.app hgE (grown_alloc wr 1 _) hgrow HCO.out).1, (HR.out.app hgE (grown_alloc wr 1 _) hgrow HCO.out).2⟩, fun hH8 => ?_⟩
              simp only [Act.put, List.setIfInBounds_toArray, List.set_cons_zero, List.set_cons_succ]
              refine hTake 9 (Op.fieldAddr 26 (Operand.tmp 6) 3) (some 144) (.pointer (some ⟨g, 3, none⟩)) (by kernel_rfl) (by kernel_rfl) (by kernel_rfl) (by kernel_rfl) (by kernel_rfl) (fun _ _ _ h => h) (fun o ho wX hX => by unfold execOp; simp only [ho]; go_simp) (by assumption) ?_
              simp only [Act.put, List.setIfInBounds_toArray, List.set_cons_zero, List.set_cons_succ]
              refine wpAnyH_ready (rs := [10]) (by kernel_rfl) (by simp) ?_
              refine rSkipR 10 (Op.store 24 (Operand.tmp 144) (Operand.tmp 143)) none (w3.setCell ⟨g, 3, none⟩ (.slice a3 (j + 1) q3)) (by kernel_rfl) (by kernel_rfl) (fun o ho => by unfold execOp; simp only [ho]; go_simp) ⟨_, hr3 _⟩ ?_ AllReadyH.nil
              simp only [Act.put, List.setIfInBounds_toArray, List.set_cons_zero, List.set_cons_succ]
              refine wpAnyH_done (by kernel_rfl) ?_ _
              have HR3 := Lib.hid hr3
              have HO3 := Lib.hid hown
              clear hown hgrow hb3 hr3 hc33 hf33
              go_wp2_with fail
              exact ⟨⟨j + 1, a3, q3, by omega, by go_num, Lib.hid (HR3.out _), Lib.hid (by rw [HTK.out]; exact own_far HO3.out hgE 3 _)⟩, by simp [intOf]; omega⟩
            · simp only [Act.put, List.setIfInBounds_toArray, List.set_cons_zero, List.set_cons_succ]
              refine wpAnyH_ready (rs := [1]) (by kernel_rfl) (by simp) ?_
              refine rStep 1 (Op.load 24 (Operand.tmp 135)) (some 136) (.slice A5 j c5) ((wr.alloc (.cells #[.int .i64 u] 3)).drew) (by kernel_rfl) (by kernel_rfl) (fun o ho => by have hcell := HC32.out; unfold execOp; simp only [ho]; go_simp) ⟨_, (HR.out.drewN 1).alloc hgE _⟩ ?_ AllReadyH.nil
              simp only [Act.put, List.setIfInBounds_toArray, List.set_cons_zero, List.set_cons_succ]
              refine wpAnyH_ready (rs := [8]) (by kernel_rfl) (by simp) ?_
              refine rAppR 8 tInt (.tmp 136) (.tmp 142) (some 143) (by kernel_rfl) (by kernel_rfl) (by rfl) (World.ownsRow.alloc (w := wr.drew) HO.out _) (by rfl) (Sn.new wr.drew (intC [u]).toArray 3 1 1 rfl) (intC_one [u]) (by unfold maxLen; omega) (by omega) (by simp; omega) (fun v3 w3 hown hgrow _ => ?_) AllReadyH.nil
              rw [List.toList_toArray, ← intC_append] at hown
              obtain ⟨a3, q3, hv3, _, _⟩ := own_sn hown
              subst hv3
              obtain ⟨hb3, hr3⟩ := HR.out.app3 hgE 1 _ hgrow HCO.out
              have hc33 := hb3.cell 3
              have hf33 := hb3.frozen 3
              simp only [List.getElem?_toArray, List.getElem?_cons_zero, List.getElem?_cons_succ] at hc33
              refine ⟨⟨_, (HR.out.app hgE (grown_alloc wr 1 _) hgrow HCO.out).1, (HR.out.app hgE (grown_alloc wr 1 _) hgrow HCO.out).2⟩, fun hH8 => ?_⟩
              simp only [Act.put, List.setIfInBounds_toArray, List.set_cons_zero, List.set_cons_succ]
              refine hTake 9 (Op.fieldAddr 26 (Operand.tmp 6) 3) (some 144) (.pointer (some ⟨g, 3, none⟩)) (by kernel_rfl) (by kernel_rfl) (by kernel_rfl) (by kernel_rfl) (by kernel_rfl) (fun _ _ _ h => h) (fun o ho wX hX => by unfold execOp; simp only [ho]; go_simp) (by assumption) ?_
              simp only [Act.put, List.setIfInBounds_toArray, List.set_cons_zero, List.set_cons_succ]
              refine wpAnyH_ready (rs := [10]) (by kernel_rfl) (by simp) ?_
              refine rSkipR 10 (Op.store 24 (Operand.tmp 144) (Operand.tmp 143)) none (w3.setCell ⟨g, 3, none⟩ (.slice a3 (j + 1) q3)) (by kernel_rfl) (by kernel_rfl) (fun o ho => by unfold execOp; simp only [ho]; go_simp) ⟨_, hr3 _⟩ ?_ AllReadyH.nil
              simp only [Act.put, List.setIfInBounds_toArray, List.set_cons_zero, List.set_cons_succ]
              refine wpAnyH_done (by kernel_rfl) ?_ _
              have HR3 := Lib.hid hr3
              have HO3 := Lib.hid hown
              clear hown hgrow hb3 hr3 hc33 hf33
              go_wp2_with fail
              exact ⟨⟨j + 1, a3, q3, by omega, by go_num, Lib.hid (HR3.out _), Lib.hid (by rw [HTK.out]; exact own_far HO3.out hgE 3 _)⟩, by simp [intOf]; omega⟩
        · obtain rfl : j = ws4.length := by omega
          have HC5 : Hid (Sn wr 1 (.slice A5 ws4.length c5) ws4.length (intC (ws4.map refNum))) := Lib.hid (by have h := Sn.own HO.out; rw [List.take_length] at h; exact h)
          have HA5 : Hid (∀ b off, A5 = some ⟨b, off, none⟩ → we.heap.size ≤ b ∧ b < wr.heap.size) := Lib.hid (fun b off e => World.ownsRow.lt HO.out b (by rw [e]; rfl))
          have HD5 : Hid (Sn wr 1 (.slice dA D.length dc) D.length (Lib.byteCells D)) := Lib.hid (HDS.out.blks (fun b off e hlt => HR.out.blk hlt (by have := HDA.out _ e; have h2 : W2.heap.size ≤ b := this.1; omega)))
          have HDA5 : Hid (∀ b off, dA = some ⟨b, off, none⟩ → W2.heap.size ≤ b ∧ b < wr.heap.size) := Lib.hid (fun b off e => ⟨(HDA.out _ e).1, Nat.lt_of_lt_of_le (HDA.out _ e).2 hszr⟩)
          have HRS : Hid (Blk wr w.heap.size 26 opZ) := Lib.hid ((HR.out.blk (by omega) (by omega)).trans HREE.out)
          have HBL : Hid (Below w.heap.size w wr) := Lib.hid (HR.out.bel HBE.out (by omega) hgE)
          have HBX : Hid (Blk wr g 26 #[.int .i64 K, .int .i64 n, .slice dA D.length dc, .slice A5 ws4.length c5]) := Lib.hid HR.out.box
          have HRG := Lib.hid HBX.out.range
          obtain ⟨cs, hcs⟩ : ∃ cs, cs = ws4.map refNum := ⟨_, rfl⟩
          have hcl : ws4.length = cs.length := by rw [hcs, List.length_map]
          rw [← hcs] at HFIN HC5
          have HRT := Lib.hid (refRight_any K n D cs dA A5 dc c5 wr (by rw [← hcl]; exact HC5.out) (by omega) (by have := HDL.out; omega))
          rw [← hcl] at HRT
          have HCL := Lib.hid hcl
          clear hcs hcl HR HO HNA
          rcases Bool.eq_false_or_eq_true (rightB ⟨K, n, D, cs⟩) with hr | hr
          · rw [hr] at HRT
            have HF : Hid (parseL s = some ⟨K, n, D, cs⟩) := Lib.hid (by rw [HFIN.out, right?_some, hr]; rfl)
            clear hr HFIN
            go_wp2_with (first
              | (go_at_call 14; refine HRT.out.mono ?_; rintro e w5 ⟨rfl, hb5⟩; have HB5 := Lib.hid hb5; have HB4E := Lib.hid (HRS.out.keep hb5); have HRG2 := Lib.hid (HBX.out.keep hb5).range; clear hb5)
              | (refine ld (cs := [.int .i64 K, .int .i64 n, .slice dA D.length dc, .slice A5 ws4.length c5]) 26 (.tmp 6) rfl rfl (by rfl) HRG2.out Tryd.underlying26 rfl (by kernel_rfl) ?_)
              | (refine ld (cs := [.int .i64 K, .int .i64 n, .slice dA D.length dc, .slice A5 ws4.length c5]) 26 (.tmp 6) rfl rfl (by rfl) HRG.out Tryd.underlying26 rfl (by kernel_rfl) ?_)
              | (refine stBlk (cells := #[.int .i64 K, .int .i64 n, .slice dA D.length dc, .slice A5 ws4.length c5]) 26 (.tmp 2) (.tmp 149) rfl rfl (by rfl) (by rfl) HB4E.out (by kernel_rfl) rfl (opRow_one _ _ _ _ _ _ _ _) ?_; intro wE hE1 hE2 hE3 _; have HE1 := Lib.hid hE1; have HE2 := Lib.hid hE2; have HE3 := Lib.hid hE3; clear hE1 hE2 hE3))
            have HBE2 := Lib.hid ((bstep HBL.out HB5.out).trans HE2.out)
            have HOV : Hid (OpN wE w.heap.size (.agg #[.int .i64 K, .int .i64 n, .slice dA D.length dc, .slice A5 ws4.length c5]) ⟨K, n, D, cs⟩) := Lib.hid (by
              rw [show ws4.length = cs.length from HCL.out]
              have h5 := HC5.out
              rw [show ws4.length = cs.length from HCL.out] at h5
              exact ⟨dA, dc, A5, c5, rfl, (HD5.out.below HB5.out).other (fun b off e => by have := HDA5.out b off e; omega) HE3.out, (h5.below HB5.out).other (fun b off e => by have := HA5.out b off e; omega) HE3.out, (fun b off e => by have h1 := HDA5.out b off e; have h2 := HB5.out.size; have h3 := HE2.out.size; omega), fun b off e => by have h1 := HA5.out b off e; have h2 := HB5.out.size; have h3 := HE2.out.size; omega⟩)
            exact bodyPost_ret (results_cellR_tmp rfl _ rfl HE1.out.range Tryd.underlying26 rfl (by kernel_rfl)) rfl ⟨_, by rw [HF.out]; rfl, by rw [HF.out]; exact HOV.out, HBE2.out⟩
          · rw [hr] at HRT
            have HF : Hid (parseL s = none) := Lib.hid (by rw [HFIN.out, right?_some, hr]; rfl)
            clear hr HFIN
            go_wp2_with (first
              | (go_at_call 14; refine HRT.out.mono ?_; rintro e w5 ⟨rfl, hb5⟩; have HB5 := Lib.hid hb5; have HB4E := Lib.hid (HRS.out.keep hb5); clear hb5)
              | (refine ld (cs := [.int .i64 K, .int .i64 n, .slice dA D.length dc, .slice A5 ws4.length c5]) 26 (.tmp 6) rfl rfl (by rfl) HRG.out Tryd.underlying26 rfl (by kernel_rfl) ?_)
              | (refine stBlk 26 (.tmp 2) (.tmp 148) rfl rfl (by rfl) (by rfl) HB4E.out (by kernel_rfl) rfl (opRow_one _ _ _ _ _ _ _ _) ?_; intro wE hE1 hE2 _ _; have HE1 := Lib.hid hE1; have HE2 := Lib.hid hE2; clear hE1 hE2))
            exact bodyPost_ret (results_cellR_tmp rfl _ rfl HE1.out.range Tryd.underlying26 rfl (by kernel_rfl)) rfl ⟨_, by rw [HF.out]; rfl, by rw [HF.out]; exact OpN.zero _ _, (bstep HBL.out HB5.out).trans HE2.out⟩
end Go.Proofs.YtmaifldiondchaaDoor
