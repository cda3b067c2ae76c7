/- Parts: The law SlotTwice: its walk. -/
import Derived.Test.YtpkcddnclifcpaaMF23
import Derived.Test.YtpkcddnclifcpaaMF24
import Derived.Test.YtpkcddnclifcpaaMG7
import Derived.Test.YtpkcddnclifcpaaMF5
namespace Go.Proofs.Ytpkcddnclifcpaa
open Go.RowKit
attribute [local irreducible] wpQuiet wpAnyH
set_option linter.unusedSimpArgs false

/-- play keeps that both disks say the same. -/
theorem Rel.play {d : DiskD} {r : RefD} (h : Rel d r) (o : Op18) (v : Value) : Rel (playD d o) (playR r o v) := by
  unfold playD playR
  split
  · exact h.put _ _ _ _ _
  split
  · exact (h.fill _ _ _ _).1
  split
  · exact h.ws _ _
  split
  · exact h.write _ _
  split
  · exact h.planF _ _ _
  split
  · exact h.planC _ _ _
  split
  · exact h.crash _
  · exact h.start
/-- The loop over the operations: g9 the implementation's disk, gz the box of the reference's. -/
structure PT (w0 wr : World) (g9 gz k : Nat) : Prop where
  ex : ∃ m d mr r, PB w0 wr m d mr r ∧ Rel d r ∧ Blk wr gz 48 (refC mr r) ∧ Apart m gz ∧ gz ∉ rowsOf mr r ∧ m.g = g9 ∧ d.sec.length = 10 ∧ d.room ≤ 41 * k ∧ r.steps ≤ 41 * k ∧ r.opn.length ≤ 41 * k ∧ r.plan.length ≤ 41 * k
  h0 : w0.heap.size ≤ gz
set_option maxRecDepth 100000 in
set_option maxHeartbeats 40000000 in
theorem twice_round (w0 wr : World) (g9 gz k : Nat) (o : Op18) (h : PT w0 wr g9 gz k) (ho : Op18Ok w0 o) (hfw : Few18 o) (hk : k < 40) :
    ∃ mr r, Blk wr gz 48 (refC mr r) ∧ Calls Try.prog 24 #[.pointer (some ⟨g9, 0, none⟩), .agg (refC mr r), .agg (opC18 o).toArray] wr fun e w' => ∃ mr' r' b, e = .returned (.tuple #[.agg (refC mr' r'), .bool b]) ∧ RK w' mr' r' ∧ Blk w' gz 48 (refC mr r) ∧ Below w0.heap.size w0 w' ∧ ∀ wz, (Blk wz gz 48 (refC mr' r')) → Below gz w' wz → (∀ j, j ≠ gz → wz.heap[j]? = w'.heap[j]?) → PT w0 wz g9 gz (k + 1) := by
  obtain ⟨m, d, mr, r, hpb, hrel, hB, ha, hr, rfl, hs, b1, b2, b3, b4⟩ := h.ex
  refine ⟨mr, r, hB, (play_any w0 wr m d mr r o hpb ho hfw (by omega) (by omega) (by omega) (by omega)).mono ?_⟩
  rintro e w' ⟨m', mr', v, b, rfl, hpb', ht, hsub⟩
  have hd := playD_bd hpb.st.dk.ok.st (o := o) hfw.2.1
  have hrb := playR_b r (o := o) hfw.2.1 v
  refine ⟨mr', playR r o v, b, rfl, hpb'.rk, (ht.off hB.lt ha.1).trans hB, hpb'.st.bel, fun wz hz hbz hoz => ?_⟩
  have ha' := ha.next hB.lt ht
  have hr' : gz ∉ rowsOf mr' (playR r o v) := fun hm => by
    rcases hsub _ hm with h1 | h1
    · exact hr h1
    · have := hB.lt; omega
  exact ⟨⟨m', playD d o, mr', playR r o v, hpb'.offK hbz hoz ha' hr' h.h0, hrel.play o v, hz, ha', hr', ht.g, hd.2.2.trans hs, by have := hd.2.1; omega, by have := hrb.1; omega, by have := hrb.2.1; omega, by have := hrb.2.2; omega⟩, h.h0⟩
theorem PT.keep {w0 wr wx : World} {g9 gz k : Nat} (h : PT w0 wr g9 gz k) (hb : Below wr.heap.size wr wx) : PT w0 wx g9 gz k := by
  obtain ⟨m, d, mr, r, hpb, hrel, hB, h3, h4, h5⟩ := h.ex
  exact ⟨⟨m, d, mr, r, hpb.keep hb, hrel, hB.keep hb, h3, h4, h5⟩, h.h0⟩
/-- The loop that changes the entries: A, n, c their slice. -/
structure TB (w0 wx : World) (m : DiskM) (d : DiskD) (mr : RM) (r : RefD) (gz gs : Nat) (st : SSt) (A : Option Addr) (n c k : Nat) : Prop where
  pb : PB w0 wx m d mr r
  bz : Blk wx gz 48 (refC mr r)
  bs : Blk wx gs 56 (stC st (.slice A n c))
  en : 0 < n → ∃ gE cur, A = some ⟨gE, 0, none⟩ ∧ Blk wx gE 26 cur ∧ (∀ j, k ≤ j → j < n → ∃ z, cur[j * 33 + 32]? = some (.int .i64 z)) ∧ Apart m gE ∧ gE ∉ rowsOf mr r ∧ gE ≠ gz ∧ gE ≠ gs ∧ w0.heap.size ≤ gE
theorem TB.keep {w0 wx wy : World} {m : DiskM} {d : DiskD} {mr : RM} {r : RefD} {gz gs : Nat} {st : SSt} {A : Option Addr} {n c k : Nat} (h : TB w0 wx m d mr r gz gs st A n c k) (hb : Below wx.heap.size wx wy) : TB w0 wy m d mr r gz gs st A n c k :=
  ⟨h.pb.keep hb, h.bz.keep hb, h.bs.keep hb, fun hn => by
    obtain ⟨gE, cur, h1, h2, h3⟩ := h.en hn
    exact ⟨gE, cur, h1, h2.keep hb, h3⟩⟩
theorem TB.next {w0 wx : World} {m : DiskM} {d : DiskD} {mr : RM} {r : RefD} {gz gs : Nat} {st : SSt} {n c k gE : Nat} (h : TB w0 wx m d mr r gz gs st (some ⟨gE, 0, none⟩) n c k) (hk : k < n) (u : Value) : TB w0 (wx.setCell ⟨gE, k * 33 + 32, none⟩ u) m d mr r gz gs st (some ⟨gE, 0, none⟩) n c (k + 1) := by
  obtain ⟨gE', cur, h1, h2, h3, h4, h5, h6, h7, h8⟩ := h.en (by omega)
  injection h1 with h1
  injection h1 with h1 _ _
  subst h1
  have ho : ∀ j, j ≠ gE → (wx.setCell ⟨gE, k * 33 + 32, none⟩ u).heap[j]? = wx.heap[j]? := fun j hj => Below.heap_setCell _ ⟨gE, k * 33 + 32, none⟩ _ j hj
  have hb : Below gE wx (wx.setCell ⟨gE, k * 33 + 32, none⟩ u) := (Below.refl gE wx).setCell (p := ⟨gE, k * 33 + 32, none⟩) (Nat.le_refl _) _
  refine ⟨h.pb.offK hb ho h4 h5 h8, (ho _ (fun e => h6 e.symm)).trans h.bz, (ho _ (fun e => h7 e.symm)).trans h.bs, fun _ => ⟨gE, _, rfl, h2.set_ _ u, fun j hj1 hj2 => ?_, h4, h5, h6, h7, h8⟩⟩
  obtain ⟨z, hz⟩ := h3 j (by omega) hj2
  exact ⟨z, by rw [Array.getElem?_setIfInBounds_ne (by omega)]; exact hz⟩
theorem ent_time {es : List Ent2} (h : ∀ q ∈ es, EntOk q) (j : Nat) (hj : j < es.length) : ∃ z, (es.flatMap entP)[j * 33 + 32]? = some (.int .i64 z) := by
  have hp := flatMap_piece entP 33 es (fun q hq => entP_length q (h q hq)) j hj
  have hq := h _ (List.getElem_mem hj)
  have h32 : (entP es[j])[32]? = some (.int .i64 es[j].2) := by
    unfold entP entC
    rw [List.getElem?_append_right (by rw [u8s_length, hq.dig.len]; omega), u8s_length, hq.dig.len]
    rfl
  refine ⟨es[j].2, ?_⟩
  rw [← h32, ← hp, List.getElem?_take_of_lt (by omega), List.getElem?_drop]

set_option maxRecDepth 100000 in
set_option maxHeartbeats 40000000 in
theorem twice_any (A : Option Addr) (cap : Nat) (l : List Op18) (w : World) (hs : Sn w 40 (.slice A l.length cap) l.length (l.flatMap opC18)) (hok : ∀ o ∈ l, Op18Ok w o) (hl : l.length ≤ 9223372036854775807) :
    Calls Try.prog 6 #[.slice A l.length cap] w fun e w' => e = .returned (.bool true) ∧ Below w.heap.size w w' := by
  have HS := Lib.hid hs
  have HOK := Lib.hid hok
  clear hs hok
  go_enter Try.func6, Try.ntmps6
  go_wp2_with fail
  refine (awake18 w).mono ?_
  rintro e w1 ⟨rfl, hb1⟩
  have HF := Lib.hid (few18 A cap l w1 (HS.out.below hb1) (fun o ho => (HOK.out o ho).keep hb1) hl)
  have HB1 := Lib.hid hb1
  clear hb1
  go_wp2_with fail
  refine HF.out.mono ?_
  rintro e w2 ⟨fb, rfl, hb2, hfw⟩
  have HB2 := Lib.hid (bstep HB1.out hb2)
  have HFW := Lib.hid hfw
  clear hb2 HF hfw HB1
  cases fb with
  | false =>
    go_wp2_with fail
    refine (awake18 w2).mono ?_
    rintro e w3 ⟨rfl, hb3⟩
    go_wp2_with fail
    go_ret
    exact ⟨rfl, bstep HB2.out hb3⟩
  | true =>
    have HL40 := Lib.hid (HFW.out rfl)
    have hl40 := HL40.out.1
    have HS2 := Lib.hid (HS.out.below HB2.out)
    have HOK2 : Hid (∀ o ∈ l, Op18Ok w2 o) := Lib.hid (fun o ho => (HOK.out o ho).keep HB2.out)
    clear HS HOK
    go_upto_region 3 with fail
    go_wp2_with fail
    refine (disk_new 10 w2 (by omega) (by omega)).mono ?_
    rintro e w3 ⟨m3, rfl, hk3, hb3, hf3⟩
    have HS3 : Hid (St w2 w3 m3 (newD 10)) := Lib.hid ⟨hk3, hf3, hb3⟩
    clear hk3 hb3 hf3
    have HN := Lib.hid (ref_new 10 w3 (by omega))
    go_upto_region 7 with (first
      | (go_at_call 17; refine HN.out.mono ?_; rintro e w4 ⟨mr4, rfl, hk4, hb4, hr4⟩)
      | (refine al 48 refZ rfl rfl zeroRef ?_)
      | (refine stNew (cells := refC mr4 (rnewD 10)) 48 (.tmp 4) (.tmp 20) rfl rfl (by rfl) (by rfl) refI (by rfl) (refC_one hk4) ?_; intro w5 hB5 hb5 hs5))
    obtain ⟨gz, hgz⟩ : ∃ gz, gz = w4.heap.size := ⟨_, rfl⟩
    have HPL : Hid (PT w2 w5 m3.g gz 0) := Lib.hid (by
      have hb35 : Below w3.heap.size w3 w5 := bstep hb4 hb5
      have h3 := HS3.out
      have hlt := h3.bel.size
      have hlt4 := hb4.size
      exact ⟨⟨m3, newD 10, mr4, rnewD 10, ⟨h3.keep hb35, hk4.keep hb5, fun b hb => h3.dk.notFoot (hr4 b hb)⟩, Rel.new 10, by rw [hgz]; exact hB5, Apart.fresh h3.dk (by omega), fun hm => by have := hk4.bl gz hm; omega, rfl, rfl, Nat.le_refl _, by show (0 : Int) ≤ _; omega, Nat.le_refl _, Nat.le_refl _⟩, by omega⟩)
    have HZ : Hid (w2.heap.size ≤ gz ∧ gz < w5.heap.size) := Lib.hid ⟨by have := HS3.out.bel.size; have := hb4.size; omega, by omega⟩
    obtain ⟨g9, hg9⟩ : ∃ g9, g9 = m3.g := ⟨_, rfl⟩
    rw [← hg9] at HPL ⊢
    rw [← hgz]
    clear hgz hg9 hB5 hb5 hs5 hk4 hb4 hr4 HN HS3
    go_wp2_with fail
    go_loopw [5] (fun i wr => ∃ k : Nat, k ≤ l.length ∧ i = .int .i64 (k : Int) ∧ Hid (PT w2 wr g9 gz k)) (fun i _ => l.length - (intOf i).toNat)
    case atStart => exact ⟨0, Nat.zero_le _, rfl, HPL⟩
    case round =>
      obtain ⟨k, hk, rfl, HP⟩ := hrel
      rcases Nat.lt_or_ge k l.length with hlt | hge
      · have HBW : Hid (Below w2.heap.size w2 wr) := Lib.hid (by obtain ⟨_, _, _, _, hpb, _⟩ := HP.out.ex; exact hpb.st.bel)
        obtain ⟨b, off, hA, hrop⟩ := op_at HS2.out (fun o ho => opC18_length o (HOK2.out o ho)) k hlt
        subst hA
        have ho := HOK2.out _ (List.getElem_mem hlt)
        have hfo := HL40.out.2 _ (List.getElem_mem hlt)
        obtain ⟨o, hoe⟩ : ∃ o, o = l[k] := ⟨_, rfl⟩
        rw [← hoe] at ho hfo hrop
        have HROW : Hid (∀ W, Below w2.heap.size w2 W → W.rangeAt b (off + k * 40) (opC18 o)) := Lib.hid (fun W hb => by
          obtain ⟨b', off', he, hr⟩ := op_at (HS2.out.below hb) (fun o ho => opC18_length o (HOK2.out o ho)) k hlt
          injection he with he
          injection he with h1 h2 _
          subst h1 h2
          rw [hoe]
          exact hr)
        clear hoe hrop
        have HUO : Hid ((Try.prog.info? 67).map (·.size) = some (opC18 o).length) := Lib.hid (opI o (opC18_length o ho))
        have HO := Lib.hid ho
        have HFO := Lib.hid hfo
        clear ho hfo
        have hi0 : (0 : Int) ≤ k := by omega
        have hi1 : (k : Int) < l.length := by omega
        have hlen : ∀ m r, (Try.prog.info? 48).map (·.size) = some (refC m r).toList.length := fun _ _ => refI
        go_upto_region 10 with fail
        obtain ⟨wS, hwS⟩ : ∃ wS, wS = wr.drew := ⟨_, rfl⟩
        have HPS := Lib.hid (HP.out.keep (wx := wS) (by rw [hwS]; exact (Below.refl _ _).drew))
        have HBS : Hid (Below w2.heap.size w2 wS) := Lib.hid (by rw [hwS]; exact HBW.out.drew)
        obtain ⟨mr, r, hBz, hplay⟩ := twice_round w2 wS g9 gz k o HPS.out HO.out HFO.out (by omega)
        have HBZ := Lib.hid hBz
        have HPLAY := Lib.hid hplay
        clear hBz hplay
        refine held_start 11 (fun w' => w'.rangeAt b (off + k * 40) (opC18 o)) (by kernel_rfl) (by kernel_rfl) (by rw [← hwS]; exact HROW.out _ HBS.out) (fun hHeld => ?_)
        rw [← hwS] at hHeld ⊢
        clear hwS
        refine hMove 0 (Operand.tmp 3) (some 28) (.pointer (some ⟨g9, 0, none⟩)) (by kernel_rfl) (by kernel_rfl) (by kernel_rfl) (by kernel_rfl) (by kernel_rfl) (fun _ _ _ h => h) (by exact rfl) hHeld ?_
        simp only [Act.put, List.setIfInBounds_toArray, List.set_cons_zero, List.set_cons_succ]
        refine hMove 2 (Operand.tmp 0) (some 30) (.slice (some ⟨b, off, none⟩) l.length cap) (by kernel_rfl) (by kernel_rfl) (by kernel_rfl) (by kernel_rfl) (by kernel_rfl) (fun _ _ _ h => h) (by exact rfl) hHeld ?_
        simp only [Act.put, List.setIfInBounds_toArray, List.set_cons_zero, List.set_cons_succ]
        refine hMove 3 (Operand.tmp 5) (some 31) (.int .i64 (k : Int)) (by kernel_rfl) (by kernel_rfl) (by kernel_rfl) (by kernel_rfl) (by kernel_rfl) (fun _ _ _ h => h) (by exact rfl) hHeld ?_
        simp only [Act.put, List.setIfInBounds_toArray, List.set_cons_zero, List.set_cons_succ]
        refine hTake 4 (Op.indexAddr 61 (Operand.tmp 30) (Operand.tmp 31)) (some 32) (.pointer (some ⟨b, off + k * 40, none⟩)) (by kernel_rfl) (by kernel_rfl) (by kernel_rfl) (by kernel_rfl) (by kernel_rfl) (fun _ _ _ h => h) (fun o ho wX hX => by unfold execOp; simp only [ho]; go_simp) hHeld ?_
        simp only [Act.put, List.setIfInBounds_toArray, List.set_cons_zero, List.set_cons_succ]
        refine hLoad 5 67 (Operand.tmp 32) (some 33) (cs := opC18 o) (by kernel_rfl) (by kernel_rfl) (by kernel_rfl) (by kernel_rfl) (by kernel_rfl) (fun _ _ _ h => h) (by exact rfl) (fun _ hX => hX) Try.underlying67 rfl HUO.out hHeld ?_
        simp only [Act.put, List.setIfInBounds_toArray, List.set_cons_zero, List.set_cons_succ]
        refine wpAnyH_ready (rs := [1]) (by kernel_rfl) (by simp) ?_
        refine rLoadS 1 48 (.tmp 4) (some 29) (cs := (refC mr r).toList) (by kernel_rfl) (by kernel_rfl) (by exact rfl) HBZ.out.range Try.underlying48 rfl (hlen _ _) (HROW.out _ HBS.out) ?_ AllReadyH.nil
        simp only [Act.put, List.setIfInBounds_toArray, List.set_cons_zero, List.set_cons_succ]
        refine wpAnyH_ready (rs := [6]) (by kernel_rfl) (by simp) ?_
        refine rCall 6 (Op.call { callee := Callee.value (Operand.func 24), args := #[Operand.tmp 28, Operand.tmp 29, Operand.tmp 33], argTypes := #[34, 48, 67] }) (some 34) 24 #[.pointer (some ⟨g9, 0, none⟩), .agg (refC mr r), .agg (opC18 o).toArray] (by kernel_rfl) (by kernel_rfl) (fun o ho => by unfold execOp; simp only [ho]; go_simp) ?_ AllReadyH.nil
        refine HPLAY.out.mono ?_
        rintro e w6 ⟨mr6, r6, b6, rfl, hk6, hB6, hb6, hn6⟩
        refine ⟨_, rfl, HROW.out _ hb6, fun hHeld => ?_⟩
        simp only [Act.put, List.setIfInBounds_toArray, List.set_cons_zero, List.set_cons_succ]
        refine hTake 7 (Op.move (Operand.tmp 34)) (some 27) (.tuple #[.agg (refC mr6 r6), .bool b6]) (by kernel_rfl) (by kernel_rfl) (by kernel_rfl) (by kernel_rfl) (by kernel_rfl) (fun _ _ _ h => h) (fun o ho wX hX => by unfold execOp; simp only [ho]; go_simp) hHeld ?_
        simp only [Act.put, List.setIfInBounds_toArray, List.set_cons_zero, List.set_cons_succ]
        refine hTake 8 (Op.extract (Operand.tmp 27) 0) (some 35) (.agg (refC mr6 r6)) (by kernel_rfl) (by kernel_rfl) (by kernel_rfl) (by kernel_rfl) (by kernel_rfl) (fun _ _ _ h => h) (fun o ho wX hX => by unfold execOp; simp only [ho]; go_simp) hHeld ?_
        simp only [Act.put, List.setIfInBounds_toArray, List.set_cons_zero, List.set_cons_succ]
        refine hTake 9 (Op.extract (Operand.tmp 27) 1) (some 36) (.bool b6) (by kernel_rfl) (by kernel_rfl) (by kernel_rfl) (by kernel_rfl) (by kernel_rfl) (fun _ _ _ h => h) (fun o ho wX hX => by unfold execOp; simp only [ho]; go_simp) hHeld ?_
        simp only [Act.put, List.setIfInBounds_toArray, List.set_cons_zero, List.set_cons_succ]
        have hoth : ∀ k, k ≠ gz → (w6.setCells gz 0 (refC mr6 r6).toList).heap[k]? = w6.heap[k]? := fun k hk => setCells_other hk _ _ _
        have hbz : Below gz w6 (w6.setCells gz 0 (refC mr6 r6).toList) := (setCells_below (Nat.le_refl _) _ _ _).1
        have HPN := Lib.hid (hn6 (w6.setCells gz 0 (refC mr6 r6).toList) (Blk.setAll _ hB6 rfl) hbz hoth)
        have honel : ∀ u ∈ (refC mr6 r6).toList, u.oneCell' = true := fun u hu => by have := refC_one hk6; rw [Array.all_eq_true_iff_forall_mem] at this; exact this u (by simpa using hu)
        refine wpAnyH_ready (rs := [10]) (by kernel_rfl) (by simp) ?_
        refine rStoreS 10 48 (.tmp 4) (.tmp 35) none (cs := (refC mr6 r6).toList) (by kernel_rfl) (by kernel_rfl) (by exact rfl) (by exact rfl) (there_all hB6 rfl) (hlen _ _) honel (HROW.out _ (hb6.trans (hbz.mono HZ.out.1))) ?_ AllReadyH.nil
        simp only [Act.put, List.setIfInBounds_toArray, List.set_cons_zero, List.set_cons_succ]
        refine wpAnyH_done (by kernel_rfl) ?_ _
        clear hHeld
        obtain ⟨w7, hw7⟩ : ∃ w7, w7 = (w6.setCells gz 0 (refC mr6 r6).toList) := ⟨_, rfl⟩
        rw [← hw7] at HPN ⊢
        clear hw7 hoth hbz honel hn6 hk6 hB6 hb6
        go_wp2_with fail
        exact ⟨⟨k + 1, by omega, by go_num, HPN⟩, by simp [intOf]; omega⟩
      · obtain rfl : k = l.length := by omega
        obtain ⟨m, d, mr, r, hpb, hrel, hbz, hap, hnr, hg9, hsec, _, _, _, _⟩ := HP.out.ex
        have HPB := Lib.hid hpb
        have HREL := Lib.hid hrel
        have HSEC := Lib.hid hsec
        have HBZ := Lib.hid hbz
        have HNR := Lib.hid hnr
        subst hg9
        clear hpb hrel hbz hap hnr hsec HP HPL HZ HS2 HOK2 HL40 HFW
        have HP := Lib.hid (slot_scan 0 5 wr m d HPB.out.st.dk (by omega) (by omega))
        obtain ⟨st, hst⟩ : ∃ st, st = (scanR (none, []) (secsL d 0 5)).1 := ⟨_, rfl⟩
        obtain ⟨va, hva⟩ : ∃ va, va = valE (scanR (none, []) (secsL d 0 5)).2 := ⟨_, rfl⟩
        rw [← hst, ← hva] at HP
        have hle : st.2.length ≤ 1000000 := by
          rw [hst]
          have h1 : ∀ (L : List (List Int × Ans)) (s : SSt), (scanR s L).1.2.length ≤ s.2.length + L.length := fun L => by
            induction L with
            | nil => intro s; simp [scanR]
            | cons x L ih =>
              intro s
              obtain ⟨x, a⟩ := x
              cases a with
              | some y => simp [scanR]
              | none =>
                rw [scanR]
                cases hq : stepS s x with
                | none => simp only; omega
                | some s' =>
                  have := ih s'
                  have h2 := (stepS_len hq).1
                  simp only [List.length_cons]
                  omega
          have h2 := h1 (secsL d 0 5) (none, [])
          have h3 := secsL_len d 5 0
          simp only [List.length_nil] at h2
          omega
        clear hst hva
        go_upto_region 12 with (first
          | (go_at_call 21; refine HP.out.mono ?_; rintro e w6 ⟨hb6, v6, rfl, ho6, hok6⟩; obtain ⟨A6, c6, rfl, _⟩ := Sn.own ho6)
          | (refine al 56 stZ rfl rfl zeroS ?_)
          | (refine stNew (cells := stC st (.slice A6 st.2.length c6)) 56 (.tmp 6) (.tmp 41) rfl rfl (by rfl) (by rfl) (by kernel_rfl) (by rfl) (stC_one _ _ _ _) ?_; intro w7 hB7 hb7 hs7))
        obtain ⟨gs, hgs⟩ : ∃ gs, gs = w6.heap.size := ⟨_, rfl⟩
        obtain ⟨n, hn⟩ : ∃ n, n = st.2.length := ⟨_, rfl⟩
        rw [← hgs] at hB7 ⊢
        rw [← hn] at hB7 hle ⊢
        have HT : Hid (TB w2 w7 m d mr r gz gs st A6 n c6 0) := Lib.hid (by
          have hb67 : Below wr.heap.size wr w7 := bstep hb6 hb7
          refine ⟨HPB.out.keep hb67, HBZ.out.keep hb67, hB7, fun hp => ?_⟩
          rcases ho6.2 with ⟨h1, h2⟩ | ⟨gE, cap', cur, h1, h2, h3, h4, h5, h6, h7⟩
          · injection h1 with _ h1 _
            omega
          · injection h1 with h1 _ _
            have hlt : gE < w6.heap.size := by
              rcases Nat.lt_or_ge gE w6.heap.size with h | h
              · exact h
              · rw [Array.getElem?_eq_none h] at h3; cases h3
            refine ⟨gE, cur, h1, (Blk.keep (t := 26) h3 hb7), fun j _ hj => ?_, Apart.fresh HPB.out.st.dk h2, fun hm => by have := HPB.out.rk.bl gE hm; omega, fun e => by have := HBZ.out.lt; omega, by omega, Nat.le_trans HPB.out.st.bel.size h2⟩
            obtain ⟨z, hz⟩ := ent_time hok6 j (by omega)
            have hlt2 := (List.getElem?_eq_some_iff.1 hz).1
            rw [← h7, List.getElem?_take] at hz
            split at hz
            · exact ⟨z, by simpa using hz⟩
            · cases hz)
        have hn0 : (n : Int) ≤ 1000000 := by omega
        clear hgs hn hB7 hb7 hs7 hb6 ho6 hok6 HP HPB HBZ
        go_wp2_with fail
        go_loopw [8] (fun i wx => ∃ k : Nat, k ≤ n ∧ i = .int .i64 (k : Int) ∧ Hid (TB w2 wx m d mr r gz gs st A6 n c6 k)) (fun i _ => n - (intOf i).toNat)
        case atStart => exact ⟨0, Nat.zero_le _, rfl, HT⟩
        case round =>
          obtain ⟨k, hk, rfl, HTB⟩ := hrel
          have c2 := HTB.out.bs.cell 2
          simp only [stC, List.getElem?_toArray, List.getElem?_cons_zero, List.getElem?_cons_succ] at c2
          rcases Nat.lt_or_ge k n with hlt | hge
          · obtain ⟨gE, cur, rfl, hBE, hz, _⟩ := HTB.out.en (by omega)
            obtain ⟨z, hz⟩ := hz k (Nat.le_refl _) hlt
            have ce := hBE.cell (k * 33 + 32)
            rw [hz] at ce
            have fe := hBE.frozen (k * 33 + 32)
            have hi0 : (0 : Int) ≤ k := by omega
            have hi1 : (k : Int) < n := by omega
            have HNX := Lib.hid (fun u => HTB.out.next hlt u)
            clear hz hBE
            go_wp2_with fail
            exact ⟨⟨k + 1, by omega, by go_num, Lib.hid (HNX.out _)⟩, by simp [intOf]; omega⟩
          · obtain rfl : k = n := by omega
            have hlen : (Try.prog.info? 48).map (·.size) = some (refC mr r).toList.length := refI
            have HSC := Lib.hid (fun W (hb : Below wr.heap.size wr W) => scans_any m d mr r W (HTB.out.pb.keep hb).st.dk (HTB.out.pb.keep hb).rk HREL.out HSEC.out)
            have HRD : Hid (∀ W, Below wr.heap.size wr W → W.rangeAt gz 0 (refC mr r).toList) := Lib.hid (fun W hb => (HTB.out.bz.keep hb).range)
            have HBR := Lib.hid HTB.out.pb.st.bel
            have hr0 := HRD.out wr (Below.refl _ _)
            clear HTB
            go_wp2_with (refine ld 48 _ rfl rfl rfl hr0 Try.underlying48 rfl hlen ?_)
            refine (HSC.out wr (Below.refl _ _)).mono ?_
            rintro e w8 ⟨rfl, hb8⟩
            have HB8 := Lib.hid hb8
            have hr8 := HRD.out w8 hb8
            clear hr0 hb8
            go_wp2_with (refine ld 48 _ rfl rfl rfl hr8 Try.underlying48 rfl hlen ?_)
            refine (HSC.out w8 HB8.out).mono ?_
            rintro e w9 ⟨rfl, hb9⟩
            have HB9 := Lib.hid (bstep HB8.out hb9)
            clear hb9 hr8
            go_wp2_with fail
            go_ret
            exact ⟨rfl, HB2.out.trans ((HBR.out.mono HB2.out.size).trans (HB9.out.mono (by have := HBR.out.size; have := HB2.out.size; omega)))⟩
end Go.Proofs.Ytpkcddnclifcpaa
