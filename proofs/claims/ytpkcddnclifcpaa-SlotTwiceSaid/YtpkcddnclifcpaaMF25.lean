/- Parts: The law SlotFills: its walk. -/
import Derived.Test.YtpkcddnclifcpaaMF23
import Derived.Test.YtpkcddnclifcpaaMF24
import Derived.Test.YtpkcddnclifcpaaMF5
namespace Go.Proofs.Ytpkcddnclifcpaa
open Go.RowKit
attribute [local irreducible] wpQuiet wpAnyH
set_option linter.unusedSimpArgs false

/-- The loop over the operations: g9 the implementation's disk, gz the box of the reference's. -/
structure PL (w0 wr : World) (g9 gz k : Nat) : Prop where
  ex : ∃ m d mr r, PB w0 wr m d mr r ∧ Blk wr gz 48 (refC mr r) ∧ Apart m gz ∧ gz ∉ rowsOf mr r ∧ m.g = g9 ∧ d.sec.length = 10 ∧ d.room ≤ 41 * k ∧ r.steps ≤ 41 * k ∧ r.opn.length ≤ 41 * k ∧ r.plan.length ≤ 41 * k
  h0 : w0.heap.size ≤ gz

set_option maxRecDepth 100000 in
set_option maxHeartbeats 40000000 in
theorem plays_round (w0 wr : World) (g9 gz k : Nat) (o : Op18) (h : PL w0 wr g9 gz k) (ho : Op18Ok w0 o) (hfw : Few18 o) (hk : k < 40) :
    ∃ mr r, Blk wr gz 48 (refC mr r) ∧ Calls Try.prog 24 #[.pointer (some ⟨g9, 0, none⟩), .agg (refC mr r), .agg (opC18 o).toArray] wr fun e w' => ∃ mr' r' b, e = .returned (.tuple #[.agg (refC mr' r'), .bool b]) ∧ RK w' mr' r' ∧ Blk w' gz 48 (refC mr r) ∧ Below w0.heap.size w0 w' ∧ ∀ wz, (Blk wz gz 48 (refC mr' r')) → Below gz w' wz → (∀ j, j ≠ gz → wz.heap[j]? = w'.heap[j]?) → PL w0 wz g9 gz (k + 1) := by
  obtain ⟨m, d, mr, r, hpb, hB, ha, hr, rfl, hs, b1, b2, b3, b4⟩ := h.ex
  refine ⟨mr, r, hB, (play_any w0 wr m d mr r o hpb ho hfw (by omega) (by omega) (by omega) (by omega)).mono ?_⟩
  rintro e w' ⟨m', mr', v, b, rfl, hpb', ht, hsub⟩
  have hd := playD_bd hpb.st.dk.ok.st (o := o) hfw.2.1
  have hrb := playR_b r (o := o) hfw.2.1 v
  refine ⟨mr', playR r o v, b, rfl, hpb'.rk, (ht.off hB.lt ha.1).trans hB, hpb'.st.bel, fun wz hz hbz hoz => ?_⟩
  have ha' := ha.next hB.lt ht
  have hr' : gz ∉ rowsOf mr' (playR r o v) := fun hm => by
    rcases hsub _ hm with h1 | h1
    · exact hr h1
    · have := hB.lt; omega
  exact ⟨⟨m', playD d o, mr', playR r o v, hpb'.offK hbz hoz ha' hr' h.h0, hz, ha', hr', ht.g, hd.2.2.trans hs, by have := hd.2.1; omega, by have := hrb.1; omega, by have := hrb.2.1; omega, by have := hrb.2.2; omega⟩, h.h0⟩
theorem PL.keep {w0 wr wx : World} {g9 gz k : Nat} (h : PL w0 wr g9 gz k) (hb : Below wr.heap.size wr wx) : PL w0 wx g9 gz k := by
  obtain ⟨m, d, mr, r, hpb, hB, h3, h4, h5⟩ := h.ex
  exact ⟨⟨m, d, mr, r, hpb.keep hb, hB.keep hb, h3, h4, h5⟩, h.h0⟩
/-- Behind the loop: the disk and the slot's box. -/
structure FX (w0 wx : World) (m : DiskM) (d : DiskD) (gs : Nat) (F : Int) : Prop where
  st : St w0 wx m d
  sl : LB wx m gs 30 #[.int .i64 F, .int .i64 5]
theorem FX.keep {w0 wx wy : World} {m : DiskM} {d : DiskD} {gs : Nat} {F : Int} (h : FX w0 wx m d gs F) (hb : Below wx.heap.size wx wy) : FX w0 wy m d gs F := ⟨h.st.keep hb, h.sl.keep hb⟩
theorem FX.next {w0 wx wy : World} {m m' : DiskM} {d d' : DiskD} {gs : Nat} {F : Int} (h : FX w0 wx m d gs F) (hk : DK wy m' d') (ht : DT wx m wy m') : FX w0 wy m' d' gs F := ⟨h.st.next hk ht, h.sl.next ht⟩
theorem ents_pre {es more : List Ent2} (h : ∀ q ∈ es, EntOk q) : (((es ++ more).flatMap entP).take (es.length * 33)) = es.flatMap entP := by
  rw [List.flatMap_append, List.take_left' (flatMap_len entP 33 es (fun q hq => entP_length q (h q hq)))]

set_option maxRecDepth 100000 in
set_option maxHeartbeats 40000000 in
theorem fills_any (A : Option Addr) (cap : Nat) (l : List Op18) (half : Bool) (g : Nat) (Ae : Option Addr) (ce : Nat) (es : List Ent2) (w : World) (hs : Sn w 40 (.slice A l.length cap) l.length (l.flatMap opC18)) (hok : ∀ o ∈ l, Op18Ok w o) (hl : l.length ≤ 9223372036854775807) (hg : g < 4294967296) (hes : Sn w 33 (.slice Ae es.length ce) es.length (es.flatMap entP)) (heok : ∀ q ∈ es, EntOk q) :
    Calls Try.prog 5 #[.slice A l.length cap, .bool half, .int .u32 g, .slice Ae es.length ce] w fun e w' => e = .returned (.bool true) ∧ Below w.heap.size w w' := by
  have HS := Lib.hid hs
  have HOK := Lib.hid hok
  have HES := Lib.hid hes
  have HEOK := Lib.hid heok
  clear hs hok hes heok
  go_enter Try.func5, Try.ntmps5
  go_wp2_with fail
  refine (awake18 w).mono ?_
  rintro e w1 ⟨rfl, hb1⟩
  have HF := Lib.hid (few18 A cap l w1 (HS.out.below hb1) (fun o ho => (HOK.out o ho).keep hb1) hl)
  have HB1 := Lib.hid hb1
  clear hb1
  go_wp2_with fail
  refine HF.out.mono ?_
  rintro e w2 ⟨fb, rfl, hb2, hfw⟩
  have HB2 := Lib.hid (bstep HB1.out hb2)
  have HFW := Lib.hid hfw
  clear hb2 HF hfw HB1
  by_cases hsm : fb = false ∨ 4 < es.length
  · have hb : fb = false ∨ (fb = true ∧ decide ((4 : Int) < es.length) = true) := by
      rcases hsm with h | h
      · exact .inl h
      · cases fb
        · exact .inl rfl
        · exact .inr ⟨rfl, decide_eq_true (by omega)⟩
    rcases hb with rfl | ⟨rfl, t2⟩
    all_goals
      go_wp2_with fail
      refine (awake18 w2).mono ?_
      rintro e w3 ⟨rfl, hb3⟩
      go_wp2_with fail
      go_ret
      exact ⟨rfl, bstep HB2.out hb3⟩
  · have t2 : decide ((4 : Int) < es.length) = false := decide_eq_false (by omega)
    obtain rfl : fb = true := by cases fb <;> simp_all
    have HL40 := Lib.hid (HFW.out rfl)
    have hl40 := HL40.out.1
    have he4 : es.length ≤ 4 := by omega
    clear hsm
    have HS2 := Lib.hid (HS.out.below HB2.out)
    have HES2 := Lib.hid (HES.out.below HB2.out)
    have HOK2 : Hid (∀ o ∈ l, Op18Ok w2 o) := Lib.hid (fun o ho => (HOK.out o ho).keep HB2.out)
    clear HS HES HOK
    go_upto_region 3 with fail
    clear t2
    go_wp2_with fail
    refine (disk_new 10 w2 (by omega) (by omega)).mono ?_
    rintro e w3 ⟨m3, rfl, hk3, hb3, hf3⟩
    have HS3 : Hid (St w2 w3 m3 (newD 10)) := Lib.hid ⟨hk3, hf3, hb3⟩
    clear hk3 hb3 hf3
    have HN := Lib.hid (ref_new 10 w3 (by omega))
    go_upto_region 7 with (first
      | (go_at_call 17; refine HN.out.mono ?_; rintro e w4 ⟨mr4, rfl, hk4, hb4, hr4⟩)
      | (refine al 48 refZ rfl rfl zeroRef ?_)
      | (refine stNew (cells := refC mr4 (rnewD 10)) 48 (.tmp 10) (.tmp 31) rfl rfl (by rfl) (by rfl) refI (by rfl) (refC_one hk4) ?_; intro w5 hB5 hb5 hs5))
    obtain ⟨gz, hgz⟩ : ∃ gz, gz = w4.heap.size := ⟨_, rfl⟩
    have HPL : Hid (PL w2 w5 m3.g gz 0) := Lib.hid (by
      have hb35 : Below w3.heap.size w3 w5 := bstep hb4 hb5
      have h3 := HS3.out
      have hlt := h3.bel.size
      have hlt4 := hb4.size
      exact ⟨⟨m3, newD 10, mr4, rnewD 10, ⟨h3.keep hb35, hk4.keep hb5, fun b hb => h3.dk.notFoot (hr4 b hb)⟩, by rw [hgz]; exact hB5, Apart.fresh h3.dk (by omega), fun hm => by have := hk4.bl gz hm; omega, rfl, rfl, Nat.le_refl _, by show (0 : Int) ≤ _; omega, Nat.le_refl _, Nat.le_refl _⟩, by omega⟩)
    have HZ : Hid (w2.heap.size ≤ gz ∧ gz < w5.heap.size) := Lib.hid ⟨by have := HS3.out.bel.size; have := hb4.size; omega, by omega⟩
    obtain ⟨g9, hg9⟩ : ∃ g9, g9 = m3.g := ⟨_, rfl⟩
    rw [← hg9] at HPL ⊢
    rw [← hgz]
    clear hgz hg9 hB5 hb5 hs5 hk4 hb4 hr4 HN HS3
    go_wp2_with fail
    go_loopw [11] (fun i wr => ∃ k : Nat, k ≤ l.length ∧ i = .int .i64 (k : Int) ∧ Hid (PL w2 wr g9 gz k)) (fun i _ => l.length - (intOf i).toNat)
    case atStart => exact ⟨0, Nat.zero_le _, rfl, HPL⟩
    case round =>
      obtain ⟨k, hk, rfl, HP⟩ := hrel
      rcases Nat.lt_or_ge k l.length with hlt | hge
      · have hbw := HP.out.ex
        have HBW : Hid (Below w2.heap.size w2 wr) := Lib.hid (by obtain ⟨_, _, _, _, hpb, _⟩ := HP.out.ex; exact hpb.st.bel)
        obtain ⟨b, off, hA, hrop⟩ := op_at HS2.out (fun o ho => opC18_length o (HOK2.out o ho)) k hlt
        subst hA
        have ho := HOK2.out _ (List.getElem_mem hlt)
        have hfo := HL40.out.2 _ (List.getElem_mem hlt)
        obtain ⟨o, hoe⟩ : ∃ o, o = l[k] := ⟨_, rfl⟩
        rw [← hoe] at ho hfo hrop
        have HROW : Hid (∀ W, Below w2.heap.size w2 W → W.rangeAt b (off + k * 40) (opC18 o)) := Lib.hid (fun W hb => by
          obtain ⟨b', off', he, hr⟩ := op_at (HS2.out.below hb) (fun o ho => opC18_length o (HOK2.out o ho)) k hlt
          injection he with he
          injection he with h1 h2 _
          subst h1 h2
          rw [hoe]
          exact hr)
        clear hbw hoe hrop
        have HUO : Hid ((Try.prog.info? 67).map (·.size) = some (opC18 o).length) := Lib.hid (opI o (opC18_length o ho))
        have HO := Lib.hid ho
        have HFO := Lib.hid hfo
        clear ho hfo
        have hi0 : (0 : Int) ≤ k := by omega
        have hi1 : (k : Int) < l.length := by omega
        have hlen : ∀ m r, (Try.prog.info? 48).map (·.size) = some (refC m r).toList.length := fun _ _ => refI
        go_upto_region 10 with fail
        obtain ⟨wS, hwS⟩ : ∃ wS, wS = wr.drew := ⟨_, rfl⟩
        have HPS := Lib.hid (HP.out.keep (wx := wS) (by rw [hwS]; exact (Below.refl _ _).drew))
        have HBS : Hid (Below w2.heap.size w2 wS) := Lib.hid (by rw [hwS]; exact HBW.out.drew)
        obtain ⟨mr, r, hBz, hplay⟩ := plays_round w2 wS g9 gz k o HPS.out HO.out HFO.out (by omega)
        have HBZ := Lib.hid hBz
        have HPLAY := Lib.hid hplay
        clear hBz hplay
        refine held_start 11 (fun w' => w'.rangeAt b (off + k * 40) (opC18 o)) (by kernel_rfl) (by kernel_rfl) (by rw [← hwS]; exact HROW.out _ HBS.out) (fun hHeld => ?_)
        rw [← hwS] at hHeld ⊢
        clear hwS
        refine hMove 0 (Operand.tmp 9) (some 39) (.pointer (some ⟨g9, 0, none⟩)) (by kernel_rfl) (by kernel_rfl) (by kernel_rfl) (by kernel_rfl) (by kernel_rfl) (fun _ _ _ h => h) (by exact rfl) hHeld ?_
        simp only [Act.put, List.setIfInBounds_toArray, List.set_cons_zero, List.set_cons_succ]
        refine hMove 2 (Operand.tmp 0) (some 41) (.slice (some ⟨b, off, none⟩) l.length cap) (by kernel_rfl) (by kernel_rfl) (by kernel_rfl) (by kernel_rfl) (by kernel_rfl) (fun _ _ _ h => h) (by exact rfl) hHeld ?_
        simp only [Act.put, List.setIfInBounds_toArray, List.set_cons_zero, List.set_cons_succ]
        refine hMove 3 (Operand.tmp 11) (some 42) (.int .i64 (k : Int)) (by kernel_rfl) (by kernel_rfl) (by kernel_rfl) (by kernel_rfl) (by kernel_rfl) (fun _ _ _ h => h) (by exact rfl) hHeld ?_
        simp only [Act.put, List.setIfInBounds_toArray, List.set_cons_zero, List.set_cons_succ]
        refine hTake 4 (Op.indexAddr 61 (Operand.tmp 41) (Operand.tmp 42)) (some 43) (.pointer (some ⟨b, off + k * 40, none⟩)) (by kernel_rfl) (by kernel_rfl) (by kernel_rfl) (by kernel_rfl) (by kernel_rfl) (fun _ _ _ h => h) (fun o ho wX hX => by unfold execOp; simp only [ho]; go_simp) hHeld ?_
        simp only [Act.put, List.setIfInBounds_toArray, List.set_cons_zero, List.set_cons_succ]
        refine hLoad 5 67 (Operand.tmp 43) (some 44) (cs := opC18 o) (by kernel_rfl) (by kernel_rfl) (by kernel_rfl) (by kernel_rfl) (by kernel_rfl) (fun _ _ _ h => h) (by exact rfl) (fun _ hX => hX) Try.underlying67 rfl HUO.out hHeld ?_
        simp only [Act.put, List.setIfInBounds_toArray, List.set_cons_zero, List.set_cons_succ]
        refine wpAnyH_ready (rs := [1]) (by kernel_rfl) (by simp) ?_
        refine rLoadS 1 48 (.tmp 10) (some 40) (cs := (refC mr r).toList) (by kernel_rfl) (by kernel_rfl) (by exact rfl) HBZ.out.range Try.underlying48 rfl (hlen _ _) (HROW.out _ HBS.out) ?_ AllReadyH.nil
        simp only [Act.put, List.setIfInBounds_toArray, List.set_cons_zero, List.set_cons_succ]
        refine wpAnyH_ready (rs := [6]) (by kernel_rfl) (by simp) ?_
        refine rCall 6 (Op.call { callee := Callee.value (Operand.func 24), args := #[Operand.tmp 39, Operand.tmp 40, Operand.tmp 44], argTypes := #[34, 48, 67] }) (some 45) 24 #[.pointer (some ⟨g9, 0, none⟩), .agg (refC mr r), .agg (opC18 o).toArray] (by kernel_rfl) (by kernel_rfl) (fun o ho => by unfold execOp; simp only [ho]; go_simp) ?_ AllReadyH.nil
        refine HPLAY.out.mono ?_
        rintro e w6 ⟨mr6, r6, b6, rfl, hk6, hB6, hb6, hn6⟩
        refine ⟨_, rfl, HROW.out _ hb6, fun hHeld => ?_⟩
        simp only [Act.put, List.setIfInBounds_toArray, List.set_cons_zero, List.set_cons_succ]
        refine hTake 7 (Op.move (Operand.tmp 45)) (some 38) (.tuple #[.agg (refC mr6 r6), .bool b6]) (by kernel_rfl) (by kernel_rfl) (by kernel_rfl) (by kernel_rfl) (by kernel_rfl) (fun _ _ _ h => h) (fun o ho wX hX => by unfold execOp; simp only [ho]; go_simp) hHeld ?_
        simp only [Act.put, List.setIfInBounds_toArray, List.set_cons_zero, List.set_cons_succ]
        refine hTake 8 (Op.extract (Operand.tmp 38) 0) (some 46) (.agg (refC mr6 r6)) (by kernel_rfl) (by kernel_rfl) (by kernel_rfl) (by kernel_rfl) (by kernel_rfl) (fun _ _ _ h => h) (fun o ho wX hX => by unfold execOp; simp only [ho]; go_simp) hHeld ?_
        simp only [Act.put, List.setIfInBounds_toArray, List.set_cons_zero, List.set_cons_succ]
        refine hTake 9 (Op.extract (Operand.tmp 38) 1) (some 47) (.bool b6) (by kernel_rfl) (by kernel_rfl) (by kernel_rfl) (by kernel_rfl) (by kernel_rfl) (fun _ _ _ h => h) (fun o ho wX hX => by unfold execOp; simp only [ho]; go_simp) hHeld ?_
        simp only [Act.put, List.setIfInBounds_toArray, List.set_cons_zero, List.set_cons_succ]
        have hoth : ∀ k, k ≠ gz → (w6.setCells gz 0 (refC mr6 r6).toList).heap[k]? = w6.heap[k]? := fun k hk => setCells_other hk _ _ _
        have hbz : Below gz w6 (w6.setCells gz 0 (refC mr6 r6).toList) := (setCells_below (Nat.le_refl _) _ _ _).1
        have HPN := Lib.hid (hn6 (w6.setCells gz 0 (refC mr6 r6).toList) (Blk.setAll _ hB6 rfl) hbz hoth)
        have honel : ∀ u ∈ (refC mr6 r6).toList, u.oneCell' = true := fun u hu => by have := refC_one hk6; rw [Array.all_eq_true_iff_forall_mem] at this; exact this u (by simpa using hu)
        refine wpAnyH_ready (rs := [10]) (by kernel_rfl) (by simp) ?_
        refine rStoreS 10 48 (.tmp 10) (.tmp 46) none (cs := (refC mr6 r6).toList) (by kernel_rfl) (by kernel_rfl) (by exact rfl) (by exact rfl) (there_all hB6 rfl) (hlen _ _) honel (HROW.out _ (hb6.trans (hbz.mono HZ.out.1))) ?_ AllReadyH.nil
        simp only [Act.put, List.setIfInBounds_toArray, List.set_cons_zero, List.set_cons_succ]
        refine wpAnyH_done (by kernel_rfl) ?_ _
        clear hHeld
        obtain ⟨w7, hw7⟩ : ∃ w7, w7 = (w6.setCells gz 0 (refC mr6 r6).toList) := ⟨_, rfl⟩
        rw [← hw7] at HPN ⊢
        clear hw7 hoth hbz honel hn6 hk6 hB6 hb6
        go_wp2_with fail
        exact ⟨⟨k + 1, by omega, by go_num, HPN⟩, by simp [intOf]; omega⟩
      · obtain rfl : k = l.length := by omega
        obtain ⟨m, d, mr, r, hpb, _, _, _, hg9, hsec, hroom, _, _, _⟩ := HP.out.ex
        have hrm : d.room ≤ 1640 := by omega
        have HST := Lib.hid hpb.st
        have HSEC := Lib.hid hsec
        have HEW : Hid (∀ W, Below w2.heap.size w2 W → Sn W 33 (.slice Ae es.length ce) es.length (es.flatMap entP)) := Lib.hid (fun W h => HES2.out.below h)
        subst hg9
        clear hpb hsec hroom HP HPL HZ HS2 HOK2 HL40 HFW HES2
        go_upto_region 12 with fail
        obtain ⟨gs, hgs⟩ : ∃ gs, gs = wr.heap.size := ⟨_, rfl⟩
        rw [← hgs]
        obtain ⟨w4, hw4⟩ : ∃ w4, w4 = wr.alloc (.cells #[.int .i64 0, .int .i64 5] 30) := ⟨_, rfl⟩
        have hb4 : Below wr.heap.size wr w4 := by rw [hw4]; exact bel1 _ _
        have HX4 : Hid (FX w2 w4 m d gs 0) := Lib.hid ⟨HST.out.keep hb4, LB.fresh HST.out.dk (by rw [hgs]; exact Nat.le_refl _) (by rw [hw4]; exact Blk.newAt _ _ _ _ hgs.symm)⟩
        have HAP : Hid (Apart m gs ∧ w2.heap.size ≤ gs) := Lib.hid ⟨Apart.fresh HST.out.dk (by omega), by rw [hgs]; exact HST.out.bel.size⟩
        rw [← hw4]
        clear hgs hw4 hb4 HST
        obtain ⟨F, hF⟩ : ∃ F : Int, F = if half then 5 else 0 := ⟨_, rfl⟩
        have HF5 : Hid (F = 0 ∨ F = 5) := Lib.hid (by rw [hF]; cases half <;> simp)
        have HFv := Lib.hid hF
        have hF2 : 0 ≤ F ∧ F ≤ 5 := by have := HF5.out; omega
        have hF64 : isI64 F := ⟨by omega, by omega⟩
        clear hF
        go_upto_if 49 with fail
        go_cut [] from 49 to 50 (fun wx => Hid (FX w2 wx m d gs F))
        case first =>
          cases half with
          | false =>
            have hf : F = 0 := HFv.out
            go_wp2_with fail
            go_meet
            exact Lib.hid (by rw [hf]; exact HX4.out)
          | true =>
            have hf : F = 5 := HFv.out
            have HF0 := Lib.hid hf
            clear hf
            have hc0 := HX4.out.sl.blk.cell 0
            simp only [List.getElem?_toArray, List.getElem?_cons_zero] at hc0
            have hfz := HX4.out.sl.blk.frozen 0
            go_wp2_with fail
            go_meet
            have hof : ∀ k, k ≠ gs → (w4.setCell ⟨gs, 0, none⟩ (.int .i64 5)).heap[k]? = w4.heap[k]? := fun k hk => Below.heap_setCell _ ⟨gs, 0, none⟩ _ k hk
            have hbs : Below gs w4 (w4.setCell ⟨gs, 0, none⟩ (.int .i64 5)) := (Below.refl gs w4).setCell (p := ⟨gs, 0, none⟩) (Nat.le_refl _) _
            exact Lib.hid (by rw [HF0.out]; exact ⟨⟨HX4.out.st.dk.offK hof hbs.size HAP.out.1, HX4.out.st.ft, HX4.out.st.bel.trans (hbs.mono HAP.out.2)⟩, ⟨HX4.out.sl.blk.set_ 0 _, HX4.out.sl.nf⟩⟩)
        case rest =>
        have HX := hcut
        clear HX4 HAP HFv
        obtain ⟨fa, d1, hfd⟩ : ∃ fa d1, fillR d F 5 g es = (fa, d1) := ⟨_, _, rfl⟩
        have HFD := Lib.hid hfd
        have hr1 : d1.room ≤ 1649 := by
          have := (fillR_bd HX.out.st.dk.ok.st F 5 g es).2.1
          rw [hfd] at this
          have h2 : d1.room ≤ d.room + (2 * es.length + 1) := this
          omega
        have HP := Lib.hid (slot_fill F 5 g es Ae ce wc m d HX.out.st.dk (HEW.out wc HX.out.st.bel) HEOK.out ⟨hF2.1, by omega⟩ ⟨⟨by decide, by decide⟩, by decide⟩ hg (by omega) (by omega))
        rw [hfd] at HP
        have hsl := HX.out.sl.blk.range
        rw [List.toList_toArray] at hsl
        clear hfd
        cases fa with
        | some x =>
          obtain ⟨t, u, e⟩ := valE_form x
          rw [e] at HP
          clear e
          have hne := neq_nil t u
          go_wp2_with (first
            | (refine ld 30 _ rfl rfl rfl hsl Try.underlying30 rfl (by kernel_rfl) ?_)
            | (go_at_call 15; refine HP.out.mono ?_; rintro e w5 ⟨rfl, m5, hk5, ht5⟩))
          go_ret
          exact ⟨rfl, bstep HB2.out (HX.out.next hk5 ht5).st.bel⟩
        | none =>
          simp only [valE] at HP
          obtain ⟨ca, hca⟩ : ∃ ca, ca = wsA d1 F (rec g toll) := ⟨_, rfl⟩
          have HCA := Lib.hid hca
          have HC := Lib.hid (fun (W : World) (M : DiskM) (hx : FX w2 W M d1 gs F) => slot_commit F 5 g W M d1 hx.st.dk hF64 hg (by omega))
          rw [← hca] at HC
          clear hca
          cases ca with
          | some x =>
            obtain ⟨t, u, e⟩ := valE_form x
            rw [e] at HC
            clear e
            have hne := neq_nil t u
            go_wp2_with (first
              | (refine ld 30 _ rfl rfl rfl hsl Try.underlying30 rfl (by kernel_rfl) ?_)
              | (go_at_call 15; refine HP.out.mono ?_; rintro e w5 ⟨rfl, m5, hk5, ht5⟩; have HX5 := Lib.hid (HX.out.next hk5 ht5); have hg5 := ht5.g; have hsl := HX5.out.sl.blk.range; rw [List.toList_toArray] at hsl; have HC5 := Lib.hid (HC.out w5 m5 HX5.out); rw [hg5] at HC5; clear hk5 ht5 hg5)
              | (go_at_call 18; refine HC5.out.mono ?_; rintro e w6 ⟨rfl, m6, hk6, ht6⟩))
            go_ret
            exact ⟨rfl, bstep HB2.out (HX5.out.next hk6 ht6).st.bel⟩
          | none =>
            simp only [valE] at HC
            obtain ⟨d2, hd2⟩ : ∃ d2, d2 = wsD d1 F (rec g toll) := ⟨_, rfl⟩
            rw [← hd2] at HC
            obtain ⟨more, hsc, hml⟩ := fills_vals d d1 F HF5.out g hg es HEOK.out HSEC.out he4 HFD.out HCA.out.symm
            rw [← hd2] at hsc
            obtain ⟨ents, hents⟩ : ∃ ents, ents = es ++ more := ⟨_, rfl⟩
            rw [← hents] at hsc hml
            have hle : es.length ≤ ents.length := by rw [hents]; simp
            have HENT := Lib.hid hents
            have HSC := Lib.hid hsc
            clear hd2 hsc hents
            go_upto_region 16 with (first
              | (refine ld 30 _ rfl rfl rfl hsl Try.underlying30 rfl (by kernel_rfl) ?_)
              | (go_at_call 15; refine HP.out.mono ?_; rintro e w5 ⟨rfl, m5, hk5, ht5⟩; have HX5 := Lib.hid (HX.out.next hk5 ht5); have hg5 := ht5.g; have hsl := HX5.out.sl.blk.range; rw [List.toList_toArray] at hsl; have HC5 := Lib.hid (HC.out w5 m5 HX5.out); rw [hg5] at HC5; clear hk5 ht5)
              | (go_at_call 18; refine HC5.out.mono ?_; rintro e w6 ⟨rfl, m6, hk6, ht6⟩))
            have HX6 := Lib.hid (HX5.out.next hk6 ht6)
            have hg6 := ht6.g.trans hg5
            clear hk6 ht6 hg5 hsl HC5 HC HP HX5 HX
            have HP := Lib.hid (disk_crash [] none 0 w6 m6 d2 HX6.out.st.dk (Sn.nil _ _) (by simp))
            simp only [List.length_nil] at HP
            rw [hg6] at HP
            go_upto_region 17 with (go_at_call 25; refine HP.out.mono ?_; rintro e w7 ⟨rfl, m7, hk7, ht7⟩)
            have HX7 := Lib.hid (HX6.out.next hk7 ht7)
            have hg7 := ht7.g.trans hg6
            clear hk7 ht7 hg6 HP HX6
            have HP := Lib.hid (disk_start w7 m7 (crashD d2 []) HX7.out.st.dk)
            rw [hg7] at HP
            go_upto_region 18 with (go_at_call 20; refine HP.out.mono ?_; rintro e w8 ⟨rfl, hk8, ht8⟩)
            have HX8 := Lib.hid (HX7.out.next hk8 ht8)
            clear hk8 ht8 HP HX7
            have HP := Lib.hid (slot_scan F 5 w8 m7 (startD (crashD d2 [])) HX8.out.st.dk ⟨hF2.1, by omega⟩ (by omega))
            rw [HSC.out, hg7] at HP
            simp only [valE] at HP
            have hr1 := HX8.out.sl.blk.range
            rw [List.toList_toArray] at hr1
            go_upto_region 19 with (first
              | (refine ld 30 _ rfl rfl rfl hr1 Try.underlying30 rfl (by kernel_rfl) ?_)
              | (go_at_call 21; refine HP.out.mono ?_; rintro e w11 ⟨hb11, v11, rfl, ho11, hq11⟩; obtain ⟨A11, c11, rfl, hc11, _, _⟩ := id (Sn.own ho11))
              | (refine al 56 stZ rfl rfl zeroS ?_)
              | (refine stNew (cells := stC (some g, ents) (.slice A11 ents.length c11)) 56 (.tmp 13) (.tmp 72) rfl rfl (by rfl) (by rfl) (by kernel_rfl) (by rfl) (stC_one _ _ _ _) ?_; intro w12 hK12 hb12 _))
            have hb812 : Below w8.heap.size w8 w12 := bstep hb11 hb12
            have HVL := Lib.hid ((Sn.own ho11).below hb12)
            have HBW := Lib.hid ((HX8.out.keep hb812).st.bel)
            have HFORM : Hid (A11 = none ∧ ents.length = 0 ∨ ∃ gg, A11 = some ⟨gg, 0, none⟩) := Lib.hid (by
              rcases ho11.2 with ⟨h1, h2⟩ | ⟨gg, cp, cur, h1, _⟩
              · injection h1 with h1 h3 h4
                exact .inl ⟨h1, h3⟩
              · injection h1 with h1 _ _
                exact .inr ⟨gg, h1⟩)
            have HT12 := Lib.hid (show Blk w12 w11.heap.size 56 (stC (some g, ents) (.slice A11 ents.length c11)) from hK12)
            have HOKN := Lib.hid hq11
            have HCP : Hid (ents.length ≤ c11) := Lib.hid hc11
            obtain ⟨gt, hgt⟩ : ∃ gt, gt = w11.heap.size := ⟨_, rfl⟩
            rw [← hgt] at HT12 ⊢
            clear hb11 hb12 hK12 hb812 ho11 hq11 hgt HP hr1 hc11 HX8
            have c1 := HT12.out.cell 0
            have c2 := HT12.out.cell 1
            have c3 := HT12.out.cell 2
            simp only [stC, List.getElem?_toArray, List.getElem?_cons_zero, List.getElem?_cons_succ] at c1 c2 c3
            simp only [Option.isSome_some, Option.getD_some] at c1 c2
            have t3 : decide ((ents.length : Int) < es.length) = false := decide_eq_false (by omega)
            have t4 : decide ((4 : Int) < ents.length) = false := decide_eq_false (by omega)
            have HSM : Hid (Calls Try.prog 22 #[.slice A11 es.length c11, .slice Ae es.length ce] w12 fun e w' => e = .returned (.bool true) ∧ Below w12.heap.size w12 w') := Lib.hid (by
              have h1 := HVL.out.take es.length hle
              rw [HENT.out, ents_pre HEOK.out] at h1
              refine (same_any _ _ es es w12 h1 HEOK.out (HEW.out w12 HBW.out) HEOK.out (by omega) (by omega)).mono ?_
              rintro e w' ⟨rfl, hb⟩
              exact ⟨by simp, hb⟩)
            have hcap : (es.length : Int) ≤ c11 := by have := HCP.out; omega
            have hcapn : es.length ≤ c11 := by have := HCP.out; omega
            rcases HFORM.out with ⟨h1, h0⟩ | ⟨gg, h1⟩
            · subst h1
              have H00 := Lib.hid h0
              clear h0
              go_upto_region 21 with fail
              go_wp2_with fail
              refine HSM.out.mono ?_
              rintro e w13 ⟨rfl, hb13⟩
              go_wp2_with fail
              go_ret
              exact ⟨rfl, bstep HB2.out (bstep HBW.out hb13)⟩
            · subst h1
              go_upto_region 21 with fail
              go_wp2_with fail
              refine HSM.out.mono ?_
              rintro e w13 ⟨rfl, hb13⟩
              go_wp2_with fail
              go_ret
              exact ⟨rfl, bstep HB2.out (bstep HBW.out hb13)⟩
end Go.Proofs.Ytpkcddnclifcpaa
