/- script.Line. -/
import Derived.Test.YtmaifldiondchaaDoorApInt
import Derived.Test.YtmaifldiondchaaDoorScr2
import Derived.Deep.RegionHeld3
import Derived.Deep.Cut
import Derived.Deep.CutBlock
namespace Go.Proofs.YtmaifldiondchaaDoor
open Go.RowKit
set_option linter.unusedSimpArgs false

/-- The state of a line that is being made: its bytes are the call's own, what lay before is as it was, the operation's box as well. -/
structure LI (w : World) (box : Array Value) (m : Value) (L : Bs) (wr : World) : Prop where
  own : OwnT wr (w.heap.size + 1) m L
  bel : Below w.heap.size w wr
  box : Blk wr w.heap.size 26 box
  size : w.heap.size + 1 ≤ wr.heap.size
theorem LI.grown {w : World} {box : Array Value} {m : Value} {L : Bs} {wr : World} (h : LI w box m L wr) {v : Value} {L' : Bs} {w' : World} (h1 : OwnT w' (w.heap.size + 1) v L') (h2 : wr.grownBy w' m.ownBlock) : LI w box v L' w' where
  own := h1
  bel := h.bel.grown h2 (by have := h.size; omega) (fun k hk => by have := (h.own.lt k hk).1; omega)
  box := (h2.block w.heap.size (by have := h.size; omega) (fun e => by have := (h.own.lt _ e.symm).1; omega)).trans h.box
  size := Nat.le_trans h.size h2.size
theorem LI.alloc {w : World} {box : Array Value} {m : Value} {L : Bs} {wr : World} (h : LI w box m L wr) (o : Obj) : LI w box m L (wr.alloc o) where
  own := h.own.alloc o
  bel := h.bel.alloc (by have := h.size; omega) o
  box := h.box.alloc o
  size := by have := h.size; simp; omega
theorem LI.drewN {w : World} {box : Array Value} {m : Value} {L : Bs} {wr : World} (h : LI w box m L wr) (n : Nat) : LI w box m L (wr.drewN n) where
  own := h.own.drewN n
  bel := bdrewN h.bel n
  box := h.box.drewN n
  size := h.size
theorem stepAppL {ops : Array Oper} {o : Oper} {a : Act} {K : Act → World → Prop} {Q : Exit → Act → World → Prop} {E : Prop} {w : World} (sl x : Operand)
    (ho : o.op = .call { callee := .builtin .append, args := #[sl, x], argTypes := #[23, 23] }) (hw : Region.wanted o (yielded ops a.tmps) = true)
    {base : Nat} {v : Value} {l m : Bs} {b off c : Nat} (hv : a.eval sl = v) (hown : OwnT w base v l) (hx : a.eval x = .slice (some ⟨b, off, none⟩) m.length c) (hc : ∀ j (hj : j < m.length), w.cell? ⟨b, off + j, none⟩ = some (.int .u8 (m[j].toNat : Int)))
    (hlim : l.length + m.length ≤ 140737488355328) (hbase : base ≤ w.heap.size)
    (h : ∀ v' w', OwnT w' base v' (l ++ m) → w.grownBy w' v.ownBlock → K (a.put o.dst v') w') : if Region.wanted o (yielded ops a.tmps) = true then Oper.wp Tryd.prog o a w K Q else E := by
  rw [if_pos hw]
  obtain ⟨v', w', hrun, h2, h3⟩ := run_appL o.type hown (c := c) hc hlim hbase
  unfold Oper.wp execOp
  simp only [ho, resolve, invoke, builtin, Sem.run_bind, Sem.run_pure, Result.andThen_ok, List.map_toArray, List.map_cons, List.map_nil, hv, hx, hrun]
  exact h v' w' h2 h3

theorem cutsL_snoc (c : List Int) (j : Nat) (h : j < c.length) : cutsL (c.take (j + 1)) = cutsL (c.take j) ++ 32 :: Lib.itoa c[j] := by
  unfold cutsL
  rw [List.take_succ_eq_append_getElem h, List.flatMap_append]
  simp
theorem cutsL_len (c : List Int) (hc : ∀ x ∈ c, 0 ≤ x ∧ x ≤ 64) : ∀ j, j ≤ c.length → (cutsL (c.take j)).length ≤ 21 * j
  | 0, _ => by simp [cutsL]
  | j + 1, h => by
    have hx := hc c[j] (List.getElem_mem (by omega))
    have h2 := itoa_len c[j] (by omega) (by omega)
    rw [cutsL_snoc c j (by omega), List.length_append, List.length_cons]
    have := cutsL_len c hc j (by omega)
    omega
theorem wordL_length (k : Int) : (wordL k).length ≤ 7 := by
  unfold wordL
  repeat (split; · decide)
  decide

set_option maxRecDepth 100000 in
set_option maxHeartbeats 8000000 in
theorem line_any (k n : Int) (d : Bs) (c : List Int) (A B : Option Addr) (ca cb : Nat) (w : World) (ht : Tab w) (hd : Sn w 1 (.slice A d.length ca) d.length (Lib.byteCells d)) (hc : Sn w 1 (.slice B c.length cb) c.length (intC c)) (hdl : d.length ≤ 1000000) (hcl : c.length ≤ 1000000) :
    Calls Tryd.prog 12 #[.agg #[.int .i64 k, .int .i64 n, .slice A d.length ca, .slice B c.length cb]] w fun e w' => e = .returned (.string (SB (lineB ⟨k, n, d, c⟩))) ∧ Below w.heap.size w w' := by
  have HD := Lib.hid hd
  have HC := Lib.hid hc
  have HT := Lib.hid ht
  have HRC := Lib.hid (fun (w1 : World) (hb : Below w.heap.size w w1) => right_any k n d c A B ca cb w1 (HC.out.below hb) (by omega) (by omega))
  clear hd hc ht
  rcases Bool.eq_false_or_eq_true (rightB ⟨k, n, d, c⟩) with hr | hr
  rotate_left 1
  · have HL : Hid (lineB ⟨k, n, d, c⟩ = []) := Lib.hid (by unfold lineB; rw [hr]; rfl)
    rw [hr] at HRC
    clear hr
    go_enter Tryd.func12, Tryd.ntmps12
    go_wp2_with (go_at_call 18; refine (HRC.out _ (bel1 _ _)).mono ?_; rintro e w' ⟨rfl, hb⟩; have HB := Lib.hid hb; clear hb)
    go_ret
    exact ⟨by rw [HL.out]; rfl, bstep (bel1 _ _) HB.out⟩
  · have HL : Hid (lineB ⟨k, n, d, c⟩ = lineL ⟨k, n, d, c⟩) := Lib.hid (by unfold lineB; rw [if_pos hr])
    obtain ⟨u, rfl⟩ := Int.eq_ofNat_of_zero_le (right_p hr).n.1.1
    have hu40 : u ≤ 1099511627776 := by have := (right_p hr).n.1.2; simp at this; omega
    have HK := Lib.hid (right_kind hr)
    have HRP := Lib.hid (right_p hr)
    rw [hr] at HRC
    clear hr
    go_enter Tryd.func12, Tryd.ntmps12
    go_wp2_with (go_at_call 18; refine (HRC.out _ (bel1 _ _)).mono ?_; rintro e w1 ⟨rfl, hb⟩; have HB1 := Lib.hid (bstep (bel1 _ _) hb); have HK1 := Lib.hid ((Blk.new _ _ _).keep hb); have hs1 := hb.size; simp only [World.size_alloc] at hs1; have b0 := HK1.out.cell 0; simp only [List.getElem?_toArray, List.getElem?_cons_zero] at b0; clear hb)
    obtain ⟨v2, w2, hcv, ho2, hb2, _⟩ := OwnT.made w1 (w.heap.size + 1) (wordL k) hs1 (by have := wordL_length k; unfold maxLen; omega)
    refine (word_any k w1).mono ?_
    rintro e w' ⟨rfl, rfl⟩
    have HI : Hid (LI w #[.int .i64 k, .int .i64 u, .slice A d.length ca, .slice B c.length cb] v2 (wordL k) w2) := Lib.hid ⟨ho2, bstep HB1.out hb2, HK1.out.keep hb2, Nat.le_trans hs1 hb2.size⟩
    obtain ⟨box, hbox⟩ : ∃ box, box = (#[.int .i64 k, .int .i64 u, .slice A d.length ca, .slice B c.length cb] : Array Value) := ⟨_, rfl⟩
    rw [← hbox] at HI
    have HBX := Lib.hid hbox
    clear hbox ho2 hb2
    clear b0
    have b0 := HI.out.box.cell 0
    rw [HBX.out] at b0
    simp only [List.getElem?_toArray, List.getElem?_cons_zero] at b0
    go_upto_block 0 with fail
    clear hcv b0
    go_cut [3] from 15 to 65 (fun m wx => Hid (LI w box m (wordL k ++ (if numbered k then 32 :: Lib.itoa u else [])) wx))
    case first => as_aux_lemma =>
      have hb2 := HI.out.box
      have c1 := hb2.cell 1
      rw [HBX.out] at c1
      simp only [List.getElem?_toArray, List.getElem?_cons_zero, List.getElem?_cons_succ] at c1
      have HT3 : Hid (∀ (v3 : Value) (w3 : World), OwnT w3 (w.heap.size + 1) v3 (wordL k ++ [32]) → ((w2.alloc (.cells #[.int .u8 32] 5)).drewN 1).grownBy w3 v2.ownBlock → Tab w3) := Lib.hid (fun v3 w3 h1 h2 => HT.out.below (((HI.out.alloc (.cells #[.int .u8 32] 5)).drewN 1).grown h1 h2).bel)
      have hwl := wordL_length k
      have hs2 := HI.out.size
      have hnb : some w.heap.size ≠ v2.ownBlock := fun e => by have := (HI.out.own.lt _ e.symm).1; omega
      have HTB := Lib.hid (HT.out.below HI.out.bel)
      clear hb2
      have HF : Hid (∀ (v4 : Value) (w3 w4 : World) (v3 : Value), OwnT w3 (w.heap.size + 1) v3 (wordL k ++ [32]) → ((w2.alloc (.cells #[.int .u8 32] 5)).drewN 1).grownBy w3 v2.ownBlock → OwnT w4 (w.heap.size + 1) v4 (wordL k ++ [32] ++ Lib.itoa u) → w3.grownBy w4 v3.ownBlock → LI w box v4 (wordL k ++ 32 :: Lib.itoa u) w4) := Lib.hid (fun v4 w3 w4 v3 h1 h2 h3 h4 => by
        have := ((HI.out.alloc (.cells #[.int .u8 32] 5)).drewN 1).grown h1 h2
        have := this.grown h3 h4
        simpa using this)
      rcases HK.out with e | e | e | e | e | e
      · have e : k = _ := e
        subst e
        go_wp2_with fail
        go_region_held3 (fun w' => w'.cell? ⟨w.heap.size, 1, none⟩ = some (.int .i64 u))
          (first | go_keep | (refine hg3.cell (by assumption) hnb) | (refine hg4.cell (by assumption) (fun e => hnb3 e)))
          ((first
            | (refine stepAppL (.tmp 21) (.tmp 22) (by rfl) (by rfl) (by rfl) ((HI.out.own.alloc _).drewN 1) (m := [32]) (by rfl) (fun j hj => new_cells w2 [32] _ j hj) (by simp; omega) (by simp; omega) ?_; intro v3 w3 ho3 hg3; have hnb3 : some w.heap.size ≠ v3.ownBlock := fun e => by have := (OwnT.lt ho3 _ e.symm).1; omega)
            | (go_at_call 30; refine (appInt_any (w.heap.size + 1) u (by omega) _ _ _ (HT3.out _ _ ho3 hg3) ho3 (by have := hg3.size; simp at this; omega) (by simp; omega)).mono ?_; rintro e w4 ⟨v4, rfl, ho4, hg4⟩)))
        all_goals
          go_wp2_with fail
          go_meet
          exact Lib.hid (HF.out v4 w3 w4 v3 ho3 hg3 ho4 hg4)
      · have e : k = _ := e
        subst e
        go_wp2_with fail
        go_meet
        exact Lib.hid (by simpa [numbered] using HI.out)
      · have e : k = _ := e
        subst e
        go_wp2_with fail
        go_meet
        exact Lib.hid (by simpa [numbered] using HI.out)
      · have e : k = _ := e
        subst e
        go_wp2_with fail
        go_meet
        exact Lib.hid (by simpa [numbered] using HI.out)
      · have e : k = _ := e
        subst e
        go_wp2_with fail
        go_region_held3 (fun w' => w'.cell? ⟨w.heap.size, 1, none⟩ = some (.int .i64 u))
          (first | go_keep | (refine hg3.cell (by assumption) hnb) | (refine hg4.cell (by assumption) (fun e => hnb3 e)))
          ((first
            | (refine stepAppL (.tmp 21) (.tmp 22) (by rfl) (by rfl) (by rfl) ((HI.out.own.alloc _).drewN 1) (m := [32]) (by rfl) (fun j hj => new_cells w2 [32] _ j hj) (by simp; omega) (by simp; omega) ?_; intro v3 w3 ho3 hg3; have hnb3 : some w.heap.size ≠ v3.ownBlock := fun e => by have := (OwnT.lt ho3 _ e.symm).1; omega)
            | (go_at_call 30; refine (appInt_any (w.heap.size + 1) u (by omega) _ _ _ (HT3.out _ _ ho3 hg3) ho3 (by have := hg3.size; simp at this; omega) (by simp; omega)).mono ?_; rintro e w4 ⟨v4, rfl, ho4, hg4⟩)))
        all_goals
          go_wp2_with fail
          go_meet
          exact Lib.hid (HF.out v4 w3 w4 v3 ho3 hg3 ho4 hg4)
      · have e : k = _ := e
        subst e
        go_wp2_with fail
        go_region_held3 (fun w' => w'.cell? ⟨w.heap.size, 1, none⟩ = some (.int .i64 u))
          (first | go_keep | (refine hg3.cell (by assumption) hnb) | (refine hg4.cell (by assumption) (fun e => hnb3 e)))
          ((first
            | (refine stepAppL (.tmp 21) (.tmp 22) (by rfl) (by rfl) (by rfl) ((HI.out.own.alloc _).drewN 1) (m := [32]) (by rfl) (fun j hj => new_cells w2 [32] _ j hj) (by simp; omega) (by simp; omega) ?_; intro v3 w3 ho3 hg3; have hnb3 : some w.heap.size ≠ v3.ownBlock := fun e => by have := (OwnT.lt ho3 _ e.symm).1; omega)
            | (go_at_call 30; refine (appInt_any (w.heap.size + 1) u (by omega) _ _ _ (HT3.out _ _ ho3 hg3) ho3 (by have := hg3.size; simp at this; omega) (by simp; omega)).mono ?_; rintro e w4 ⟨v4, rfl, ho4, hg4⟩)))
        all_goals
          go_wp2_with fail
          go_meet
          exact Lib.hid (HF.out v4 w3 w4 v3 ho3 hg3 ho4 hg4)
    case rest =>
    have hpl : (wordL k ++ (if numbered k then 32 :: Lib.itoa u else [])).length ≤ 30 := by
      have h1 := wordL_length k
      have h2 := itoa_len (u : Int) (by omega) (by omega)
      rw [List.length_append]
      split
      · rw [List.length_cons]; omega
      · simp; omega
    have HL2 : Hid (lineL ⟨k, u, d, c⟩ = (wordL k ++ (if numbered k then 32 :: Lib.itoa u else [])) ++ cutsL c ++ (if d.isEmpty then [] else 32 :: hexL d)) := Lib.hid rfl
    obtain ⟨P, hP⟩ : ∃ P, P = wordL k ++ (if numbered k then 32 :: Lib.itoa u else []) := ⟨_, rfl⟩
    rw [← hP] at hpl HL2 hcut
    clear hP
    have c3 := hcut.out.box.cell 3
    rw [HBX.out] at c3
    simp only [List.getElem?_toArray, List.getElem?_cons_zero, List.getElem?_cons_succ] at c3
    go_upto_region 9 with fail
    go_wp2_with fail
    go_loopw [3, 30] (fun m i wr => ∃ j : Nat, j ≤ c.length ∧ i = .int .i64 j ∧ Hid (LI w box m (P ++ cutsL (c.take j)) wr)) (fun _ i _ => c.length - (intOf i).toNat)
    case atStart => exact ⟨0, Nat.zero_le _, rfl, by simpa [cutsL] using hcut⟩
    case round =>
      obtain ⟨j, hj, rfl, HJ⟩ := hrel
      have hsj := HJ.out.size
      rcases Nat.lt_or_ge j c.length with hlt | hge
      · obtain ⟨b, off, eA, c0⟩ := at_int (HC.out.below HJ.out.bel) j hlt
        subst eA
        obtain ⟨hx1, hx2⟩ := HRP.out.cut c[j] (List.getElem_mem hlt)
        have hcl2 := cutsL_len c HRP.out.cut j hj
        have HSN := Lib.hid (cutsL_snoc c j hlt)
        obtain ⟨x, hx⟩ : ∃ x, x = c[j] := ⟨_, rfl⟩
        rw [← hx] at hx1 hx2 c0 HSN
        clear hx
        obtain ⟨y, rfl⟩ := Int.eq_ofNat_of_zero_le hx1
        obtain ⟨L, hL⟩ : ∃ L, L = P ++ cutsL (c.take j) := ⟨_, rfl⟩
        have hLl : L.length ≤ 30 + 21 * j := by rw [hL, List.length_append]; omega
        rw [← hL] at HJ
        have HL3 := Lib.hid hL
        clear hL
        have hi0 : (0 : Int) ≤ j := by omega
        have hi1 : (j : Int) < c.length := by omega
        go_wp2_with (first
          | (at_builtin; refine appTL (.tmp 34) (.tmp 35) rfl rfl (by rfl) (HJ.out.own.alloc _) (m := [32]) (by rfl) (fun j hj => new_cells wr [32] _ j hj) (by simp; omega) (by simp; omega) ?_; intro v3 w3 ho3 hg3; have HI3 := Lib.hid ((HJ.out.alloc _).grown ho3 hg3); have HO3 := Lib.hid ho3; clear ho3 hg3)
          | (go_at_call 30; refine (appInt_any (w.heap.size + 1) y (by omega) _ _ _ (HT.out.below HI3.out.bel) HI3.out.own HI3.out.size (by simp; omega)).mono ?_; rintro e w4 ⟨v4, rfl, ho4, hg4⟩; have HI4 := Lib.hid (HI3.out.grown ho4 hg4); clear ho4 hg4))
        exact ⟨⟨j + 1, hlt, by go_num, Lib.hid (by have h := HI4.out; rw [HL3.out] at h; rw [HSN.out]; simpa using h)⟩, by simp [intOf]; omega⟩
      · obtain rfl : j = c.length := by omega
        rw [List.take_length] at HJ
        have hcl2 := cutsL_len c HRP.out.cut c.length (Nat.le_refl _)
        rw [List.take_length] at hcl2
        have c2 := HJ.out.box.cell 2
        rw [HBX.out] at c2
        simp only [List.getElem?_toArray, List.getElem?_cons_zero, List.getElem?_cons_succ] at c2
        go_upto_if 43 with fail
        go_cut [3, 43] from 44 to 65 (fun m _ wx => Hid (LI w box m (P ++ cutsL c ++ (if d.isEmpty then [] else [32])) wx))
        case first =>
          rcases Bool.eq_false_or_eq_true d.isEmpty with hd | hd
          · have t1 : decide ((0 : Int) < d.length) = false := by rw [List.isEmpty_iff] at hd; rw [hd]; rfl
            have t1b : decide (0 < d.length) = false := by rw [List.isEmpty_iff] at hd; rw [hd]; rfl
            have HE : Hid (LI w box u3 (P ++ cutsL c ++ (if d.isEmpty then [] else [32])) wr) := Lib.hid (by rw [hd]; simpa using HJ.out)
            clear hd
            first | rw [t1b] | rw [t1]
            go_wp2_with fail
            go_meet
            exact HE
          · have t1 : decide ((0 : Int) < d.length) = true := by
              have h := len_ne hd
              rw [bne_iff_ne] at h
              simp; omega
            have t1b : decide (0 < d.length) = true := by simpa using t1
            have HE := Lib.hid hd
            clear hd
            first | rw [t1b] | rw [t1]
            go_wp2_with (at_builtin; refine appTL (.tmp 44) (.tmp 45) rfl rfl (by rfl) (HJ.out.own.alloc _) (m := [32]) (by rfl) (fun j hj => new_cells wr [32] _ j hj) (by simp; omega) (by simp; omega) ?_; intro v3 w3 ho3 hg3; have HI3 := Lib.hid ((HJ.out.alloc _).grown ho3 hg3); clear ho3 hg3)
            go_meet
            refine Lib.hid ?_
            rw [HE.out]
            exact HI3.out
        case rest =>
        clear c2
        have c2 := hcut.out.box.cell 2
        rw [HBX.out] at c2
        simp only [List.getElem?_toArray, List.getElem?_cons_zero, List.getElem?_cons_succ] at c2
        have HL4 : Hid (lineL ⟨k, u, d, c⟩ = P ++ cutsL c ++ (if d.isEmpty then [] else [32]) ++ hexL d) := Lib.hid (by
          rw [HL2.out]
          cases d with
          | nil => simp [hexL]
          | cons b d => simp)
        obtain ⟨P2, hP2⟩ : ∃ P2, P2 = P ++ cutsL c ++ (if d.isEmpty then [] else [32]) := ⟨_, rfl⟩
        have hp2 : P2.length ≤ 31 + 21 * c.length := by
          rw [hP2, List.length_append, List.length_append]
          split <;> simp <;> omega
        rw [← hP2] at hcut HL4
        clear hP2 HL2 HJ
        go_wp2_with fail
        go_loopw [3, 50] (fun m i wr => ∃ j : Nat, j ≤ d.length ∧ i = .int .i64 j ∧ Hid (LI w box m (P2 ++ hexL (d.take j)) wr)) (fun _ i _ => d.length - (intOf i).toNat)
        case atStart => exact ⟨0, Nat.zero_le _, rfl, by simpa [hexL] using hcut⟩
        case round =>
          obtain ⟨j, hj, rfl, HJ⟩ := hrel
          have hsj2 := HJ.out.size
          rcases Nat.lt_or_ge j d.length with hlt | hge
          · obtain ⟨b, off, eA, c00⟩ := at_byte HD.out j hlt
            subst eA
            have hblt := cell_lt c00
            have hnb : some b ≠ u3.ownBlock := fun e => by have := (HJ.out.own.lt _ e.symm).1; simp at hblt; omega
            have c0 := Below.cell' HJ.out.bel c00
            clear c00 hblt
            have hlen := hexL_length (d.take j)
            rw [List.length_take] at hlen
            have HSN := Lib.hid (hexL_snoc d j hlt)
            obtain ⟨z, hz⟩ : ∃ z, z = d[j].toNat := ⟨_, rfl⟩
            rw [← hz] at HSN c0
            have hz255 : z < 256 := by rw [hz]; exact UInt8.toNat_lt _
            obtain ⟨q, hq⟩ : ∃ q, q = z / 16 := ⟨_, rfl⟩
            obtain ⟨r, hr⟩ : ∃ r, r = z % 16 := ⟨_, rfl⟩
            have hx1 := fun w => idx_hex q (by omega) .u8 w
            have hx2 := fun w => idx_hex r (by omega) .u8 w
            rw [← hq, ← hr] at HSN
            have y1 : (z : Int) / 16 = q := by omega
            have y2 : bits .and .u8 (z : Int) 15 = r := by
              have h := u8_and_nat z 15 hz255 (by omega)
              rw [show z &&& 15 = z % 16 from Nat.and_two_pow_sub_one_eq_mod z 4, ← hr] at h
              exact h
            obtain ⟨L, hL⟩ : ∃ L, L = P2 ++ hexL (d.take j) := ⟨_, rfl⟩
            have hLl : L.length ≤ 31 + 21 * c.length + 2 * j := by rw [hL, List.length_append]; omega
            rw [← hL] at HJ
            have HL3 := Lib.hid hL
            clear hz hL
            obtain ⟨x1, hx1e⟩ : ∃ x, x = hexD q := ⟨_, rfl⟩
            obtain ⟨x2, hx2e⟩ : ∃ x, x = hexD r := ⟨_, rfl⟩
            rw [← hx1e] at hx1 HSN
            rw [← hx2e] at hx2 HSN
            clear hx1e hx2e hq hr
            have hi0 : (0 : Int) ≤ j := by omega
            have hi1 : (j : Int) < d.length := by omega
            have HF : Hid (∀ (v3 : Value) (w3 : World), OwnT w3 (w.heap.size + 1) v3 (L ++ [x1, x2]) → ((wr.alloc (.cells #[.int .u8 (x1.toNat : Int), .int .u8 (x2.toNat : Int)] 5)).drewN 1).grownBy w3 u3.ownBlock → LI w box v3 (P2 ++ hexL (d.take (j + 1))) w3) := Lib.hid (fun v3 w3 h1 h2 => by
              have h := ((HJ.out.alloc (.cells #[.int .u8 (x1.toNat : Int), .int .u8 (x2.toNat : Int)] 5)).drewN 1).grown h1 h2
              rw [HL3.out] at h
              rw [HSN.out]
              simpa using h)
            go_wp2_with fail
            go_region_held3 (fun w' => w'.cell? ⟨b, off + j, none⟩ = some (.int .u8 z))
              (first | go_keep | (refine hg3.cell (by assumption) hnb))
              ((refine stepAppL (.tmp 54) (.tmp 61) (by rfl) (by rfl) (by rfl) ((HJ.out.own.alloc _).drewN 1) (m := [x1, x2]) (by rfl) (fun j hj => new_cells wr [x1, x2] _ j hj) (by simp; omega) (by simp; omega) ?_; intro v3 w3 ho3 hg3))
            all_goals
              have HE3 := Lib.hid (HF.out v3 w3 ho3 hg3)
              clear ho3 hg3
              go_wp2
              exact ⟨⟨j + 1, hlt, by go_num, HE3⟩, by simp [intOf]; omega⟩
          · obtain rfl : j = d.length := by omega
            rw [List.take_length] at HJ
            have hcv := HJ.out.own.conv
            go_wp2_with fail
            go_ret
            refine ⟨?_, HJ.out.bel⟩
            rw [HL.out, HL4.out]
            rfl
end Go.Proofs.YtmaifldiondchaaDoor
