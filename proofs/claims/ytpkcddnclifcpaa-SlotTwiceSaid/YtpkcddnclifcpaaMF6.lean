/- Parts: disk.add. | sector.Cut and sector.Tear. | A slice of structs that came in, read element by element. No program is named here. | A struct stored into an element of a row of the call's own. -/
import Derived.Test.YtpkcddnclifcpaaMF5
import Derived.Test.YtpkcddnclifcpaaMF1
import Derived.Deep.Slices
import Derived.OpenShut
namespace Go.Proofs.Ytpkcddnclifcpaa
open Go.RowKit
attribute [local irreducible] wpQuiet wpAnyH
set_option linter.unusedSimpArgs false

def addM (m : DiskM) (v : Value) : DiskM := { m with ov := v }
def addD (d : DiskD) (a : Int) (s : List Int) : DiskD := { d with opn := d.opn ++ [(a, s)], room := d.room + 1 }
theorem list_of_range (s : List Int) (n : Nat) (h : s.length = n) : s = (List.range n).map (fun i => s.getD i 0) := by
  subst h
  apply List.ext_getElem
  · simp
  · intro i h1 h2
    simp [List.getD_eq_getElem?_getD, h1]
theorem built_wr (a : Int) (s : List Int) (hs : Sec s) : Try.prog.built 120 [(0, .int .i64 a), (1, .agg (u8s s).toArray)] = some (wrC (a, s)).toArray := by
  rw [list_of_range s 64 hs.1]
  generalize (fun i => s.getD i 0) = D
  kernel_rfl
theorem tWr : SlT Try.prog 76 120 65 72 := SlT.mk' Try.underlying76 (z := .agg (wrC (0, List.replicate 64 0)).toArray) (by kernel_rfl) rfl (by decide)
theorem wrC_one (p : Int × List Int) : ∀ u ∈ wrC p, u.oneCell' = true := by
  intro u hu
  simp only [wrC, List.mem_cons] at hu
  rcases hu with rfl | hu
  · rfl
  · exact u8s_mem _ u hu
theorem foot_add {m : DiskM} {v : Value} {w : World} (hv : v.ownBlock = m.ov.ownBlock ∨ ∃ k, v.ownBlock = some k ∧ w.heap.size ≤ k) : ∀ k ∈ foot (addM m v), k ∈ foot m ∨ w.heap.size ≤ k := by
  intro k hk
  simp only [foot, addM, List.mem_append, Option.mem_toList] at hk ⊢
  rcases hk with h | h | h
  · exact .inl (.inl h)
  · exact .inl (.inr (.inl h))
  · rcases hv with e | ⟨q, e, hq⟩
    · rw [e] at h; exact .inl (.inr (.inr h))
    · rw [e] at h; have := Option.some.inj h; omega
theorem nd_add {m : DiskM} {v : Value} {B : Nat} (h : (foot m).Nodup) (hlt : ∀ k ∈ foot m, k < B) (hv : v.ownBlock = m.ov.ownBlock ∨ ∃ k, v.ownBlock = some k ∧ B ≤ k) : (foot (addM m v)).Nodup := by
  rcases hv with e | ⟨q, e, hq⟩
  · have : foot (addM m v) = foot m := by simp [foot, addM, e]
    rw [this]; exact h
  · have e1 : foot m = foot (clearM m) ++ m.ov.ownBlock.toList := by simp [foot, clearM, Value.ownBlock]
    have e2 : foot (addM m v) = foot (clearM m) ++ [q] := by
      show [m.g, m.bl, m.bf, m.bc] ++ (m.sv.ownBlock.toList ++ v.ownBlock.toList) = [m.g, m.bl, m.bf, m.bc] ++ (m.sv.ownBlock.toList ++ []) ++ [q]
      rw [e]
      simp
    rw [e2, List.nodup_append]
    refine ⟨nd_clear h, by simp, fun a ha b hb e3 => ?_⟩
    rw [List.mem_singleton] at hb
    have := hlt a (foot_clear a ha)
    omega

theorem own_snD {w : World} {base e s n : Nat} {v : Value} {xs : List Value} (h : w.ownsRow base e s v n xs) : ∃ A cap, v = .slice A n cap ∧ Sn w s (.slice A n cap) n xs ∧ ∀ b off, A = some ⟨b, off, none⟩ → base ≤ b ∧ b < w.heap.size := by
  have hs := Sn.own h
  obtain ⟨A, cap, rfl, _⟩ := id hs
  exact ⟨A, cap, rfl, hs, fun b off e => h.lt b (by rw [e]; rfl)⟩
set_option maxRecDepth 100000 in
set_option maxHeartbeats 8000000 in
theorem disk_add (a : Int) (s : List Int) (w : World) (m : DiskM) (d : DiskD) (h : DK w m d) (ha : isI64 a) (hs : Sec s) (hr : d.room + 1 ≤ 100000) :
    Calls Try.prog 55 #[.pointer (some ⟨m.g, 0, none⟩), .int .i64 a, .agg (u8s s).toArray] w fun e w' => e = .returned (.bool (hasB d a)) ∧ ∃ m', DK w' m' (if hasB d a then addD d a s else d) ∧ DT w m w' m' := by
  have H := Lib.hid h
  have hgl := h.blk.lt
  clear h
  have hB0 : Below w.heap.size w (w.alloc (.cells (u8s s).toArray 80)) := (Below.refl _ _).alloc (Nat.le_refl _) _
  have HB0 := Lib.hid hB0
  have HHAS := Lib.hid (fun w1 (hb : Below w.heap.size w w1) => disk_has a w1 m d (H.out.keep hb))
  clear hB0
  cases hh : hasB d a with
  | false =>
    have HH : Hid ((decide (0 ≤ a) && decide (a < d.sec.length)) = false) := Lib.hid hh
    rw [HH.out] at HHAS
    clear hh
    go_enter Try.func55, Try.ntmps55
    go_wp2_with (go_at_call 81; refine (HHAS.out _ HB0.out).mono ?_; rintro e w1 ⟨rfl, hw1⟩; rw [hw1]; clear hw1)
    go_ret
    exact ⟨rfl, m, H.out.keep HB0.out, DT.of_below HB0.out⟩
  | true =>
    have hh2 : 0 ≤ a ∧ a < d.sec.length := by unfold hasB at hh; simpa using hh
    have HH : Hid ((decide (0 ≤ a) && decide (a < d.sec.length)) = true) := Lib.hid hh
    rw [HH.out] at HHAS
    clear hh
    have HA := Lib.hid ha
    have HSE := Lib.hid hs
    clear ha hs
    obtain ⟨A0, cap0, hov, hcap0, _⟩ := Sn.own H.out.opn
    have HOV := Lib.hid hov
    have HN := Lib.hid (foot_nd H.out.nd)
    have HLE : Hid (d.opn.length ≤ d.room) := Lib.hid H.out.ok.lo
    go_enter Try.func55, Try.ntmps55
    go_wp2_with (go_at_call 81; refine (HHAS.out _ HB0.out).mono ?_; rintro e w1 ⟨rfl, hw1⟩; rw [hw1]; clear hw1)
    obtain ⟨w1, hw1⟩ : ∃ w1, w1 = w.alloc (.cells (u8s s).toArray 80) := ⟨_, rfl⟩
    have HDK1 : Hid (DK w1 m d) := Lib.hid (by rw [hw1]; exact H.out.keep HB0.out)
    have HBX1 : Hid (Blk w1 w.heap.size 80 (u8s s).toArray) := Lib.hid (by rw [hw1]; exact Blk.new _ _ _)
    have HB01 : Hid (Below w.heap.size w w1) := Lib.hid (by rw [hw1]; exact HB0.out)
    have HDT1 : Hid (DT w m w1 m) := Lib.hid (by rw [hw1]; exact DT.of_below HB0.out)
    rw [← hw1]
    clear hw1 hov
    have HC : Hid (∀ W : World, W.heap[m.g]? = w1.heap[m.g]? → W.cell? ⟨m.g, 2, none⟩ = some (.map (some m.bl)) ∧ W.cell? ⟨m.g, 1, none⟩ = some (.slice A0 d.opn.length cap0) ∧ Blk W m.g 78 (diskC m d)) := Lib.hid (fun W hW => by
      have hB : Blk W m.g 78 (diskC m d) := hW.trans HDK1.out.blk
      exact ⟨hB.cell 2, by rw [← HOV.out]; exact hB.cell 1, hB⟩)
    have HUL : Hid (UM w1.drew m.bl d.room (lastOf d.opn)) := Lib.hid HDK1.out.last
    obtain ⟨w3, HRUN, HUL3, HT3⟩ : ∃ w3, Hid ((Instr.mapUpdate 73 (.map (some m.bl)) (.int .i64 a) (.int .i64 (d.opn.length : Int))).run Try.prog w1.drew = .ok () w3) ∧ Hid (UM w3 m.bl (d.room + 1) (uput (lastOf d.opn) a (.int .i64 (d.opn.length : Int)))) ∧ Hid (w1.drew.grownBy w3 (some m.bl)) := by
      obtain ⟨w3, h1, h2, h3⟩ := UM.put_run Try.underlying73 HUL.out HA.out (.int .i64 (d.opn.length : Int)) (by unfold maxLen; have := HLE.out; omega)
      exact ⟨w3, Lib.hid h1, Lib.hid h2, Lib.hid h3.grown⟩
    have HZ3 : Hid (w1.heap.size ≤ w3.heap.size) := Lib.hid HT3.out.size
    have HB3 : Hid (∀ k, k < w1.heap.size → k ≠ m.bl → w3.heap[k]? = w1.heap[k]?) := Lib.hid (fun k hk hn => HT3.out.block k hk (fun e => hn (Option.some.inj e)))
    have HG3 : Hid (w3.heap[m.g]? = w1.heap[m.g]?) := Lib.hid (HB3.out m.g HDK1.out.blk.lt HN.out.1)
    have HS1 : Hid (w1.drew.cell? ⟨m.g, 2, none⟩ = some (.map (some m.bl)) ∧ w1.drew.cell? ⟨m.g, 1, none⟩ = some (.slice A0 d.opn.length cap0)) := Lib.hid ⟨(HC.out w1.drew rfl).1, (HC.out w1.drew rfl).2.1⟩
    have HS3 : Hid (w3.cell? ⟨m.g, 2, none⟩ = some (.map (some m.bl)) ∧ w3.cell? ⟨m.g, 1, none⟩ = some (.slice A0 d.opn.length cap0)) := Lib.hid ⟨(HC.out w3 HG3.out).1, (HC.out w3 HG3.out).2.1⟩
    refine held_start 11 (fun wz => wz.cell? ⟨m.g, 2, none⟩ = some (.map (some m.bl)) ∧ wz.cell? ⟨m.g, 1, none⟩ = some (.slice A0 d.opn.length cap0)) (by kernel_rfl) (by kernel_rfl) (HS1.out) (fun hHeld => ?_)
    refine hMove 0 (Operand.tmp 0) (some 11) (.pointer (some ⟨m.g, 0, none⟩)) (by kernel_rfl) (by kernel_rfl) (by kernel_rfl) (by kernel_rfl) (by kernel_rfl) (fun _ _ _ h => h) (by exact rfl) hHeld ?_
    simp only [Act.put, List.setIfInBounds_toArray, List.set_cons_zero, List.set_cons_succ]
    refine hTake 1 (Op.nilCheck (Operand.tmp 11)) (some 12) (.pointer (some ⟨m.g, 0, none⟩)) (by kernel_rfl) (by kernel_rfl) (by kernel_rfl) (by kernel_rfl) (by kernel_rfl) (fun _ _ _ h => h) (fun o ho wX hX => by unfold execOp; simp only [ho]; go_simp) hHeld ?_
    simp only [Act.put, List.setIfInBounds_toArray, List.set_cons_zero, List.set_cons_succ]
    refine hTake 2 (Op.fieldAddr 78 (Operand.tmp 12) 2) (some 13) (.pointer (some ⟨m.g, 2, none⟩)) (by kernel_rfl) (by kernel_rfl) (by kernel_rfl) (by kernel_rfl) (by kernel_rfl) (fun _ _ _ h => h) (fun o ho wX hX => by unfold execOp; simp only [ho]; go_simp) hHeld ?_
    simp only [Act.put, List.setIfInBounds_toArray, List.set_cons_zero, List.set_cons_succ]
    refine hTake 3 (Op.load 73 (Operand.tmp 13)) (some 14) (.map (some m.bl)) (by kernel_rfl) (by kernel_rfl) (by kernel_rfl) (by kernel_rfl) (by kernel_rfl) (fun _ _ _ h => h) (fun o ho wX hX => by have hcell := hX.1; unfold execOp; simp only [ho]; go_simp) hHeld ?_
    simp only [Act.put, List.setIfInBounds_toArray, List.set_cons_zero, List.set_cons_succ]
    refine hMove 4 (Operand.tmp 1) (some 15) (.int .i64 a) (by kernel_rfl) (by kernel_rfl) (by kernel_rfl) (by kernel_rfl) (by kernel_rfl) (fun _ _ _ h => h) (by exact rfl) hHeld ?_
    simp only [Act.put, List.setIfInBounds_toArray, List.set_cons_zero, List.set_cons_succ]
    refine hMove 5 (Operand.tmp 0) (some 16) (.pointer (some ⟨m.g, 0, none⟩)) (by kernel_rfl) (by kernel_rfl) (by kernel_rfl) (by kernel_rfl) (by kernel_rfl) (fun _ _ _ h => h) (by exact rfl) hHeld ?_
    simp only [Act.put, List.setIfInBounds_toArray, List.set_cons_zero, List.set_cons_succ]
    refine hTake 6 (Op.nilCheck (Operand.tmp 16)) (some 17) (.pointer (some ⟨m.g, 0, none⟩)) (by kernel_rfl) (by kernel_rfl) (by kernel_rfl) (by kernel_rfl) (by kernel_rfl) (fun _ _ _ h => h) (fun o ho wX hX => by unfold execOp; simp only [ho]; go_simp) hHeld ?_
    simp only [Act.put, List.setIfInBounds_toArray, List.set_cons_zero, List.set_cons_succ]
    refine hTake 7 (Op.fieldAddr 78 (Operand.tmp 17) 1) (some 18) (.pointer (some ⟨m.g, 1, none⟩)) (by kernel_rfl) (by kernel_rfl) (by kernel_rfl) (by kernel_rfl) (by kernel_rfl) (fun _ _ _ h => h) (fun o ho wX hX => by unfold execOp; simp only [ho]; go_simp) hHeld ?_
    simp only [Act.put, List.setIfInBounds_toArray, List.set_cons_zero, List.set_cons_succ]
    refine hTake 8 (Op.load 76 (Operand.tmp 18)) (some 19) (.slice A0 d.opn.length cap0) (by kernel_rfl) (by kernel_rfl) (by kernel_rfl) (by kernel_rfl) (by kernel_rfl) (fun _ _ _ h => h) (fun o ho wX hX => by have hcell := hX.2; unfold execOp; simp only [ho]; go_simp) hHeld ?_
    simp only [Act.put, List.setIfInBounds_toArray, List.set_cons_zero, List.set_cons_succ]
    refine hTake 9 (Op.call { callee := Callee.builtin Builtin.len, args := #[Operand.tmp 19], argTypes := #[76] }) (some 20) (.int .i64 (d.opn.length : Int)) (by kernel_rfl) (by kernel_rfl) (by kernel_rfl) (by kernel_rfl) (by kernel_rfl) (fun _ _ _ h => h) (fun o ho wX hX => by unfold execOp; simp only [ho]; go_simp) hHeld ?_
    simp only [Act.put, List.setIfInBounds_toArray, List.set_cons_zero, List.set_cons_succ]
    refine wpAnyH_ready (rs := [10]) (by kernel_rfl) (by simp) ?_
    refine rUpd 10 (.tmp 14) (.tmp 15) (.tmp 20) none w3 (by kernel_rfl) (by kernel_rfl) (by rfl) (by rfl) (by rfl) HRUN.out HS3.out ?_ AllReadyH.nil
    simp only [Act.put, List.setIfInBounds_toArray, List.set_cons_zero, List.set_cons_succ]
    refine wpAnyH_done (by kernel_rfl) ?_ _
    clear hHeld
    go_wp2_with fail
    have hgw : m.g < w.heap.size := hgl
    have HBX3 : Hid (Blk w3 w.heap.size 80 (u8s s).toArray) := Lib.hid ((HB3.out _ HBX1.out.lt (fun e => by have := H.out.last.lt; omega)).trans HBX1.out)
    have HC1 : Hid (w3.drew.cell? ⟨m.g, 1, none⟩ = some (.slice A0 d.opn.length cap0)) := Lib.hid (HC.out w3.drew HG3.out).2.1
    have HC2 : Hid ((w3.alloc (.cells (wrC (a, s)).toArray 120)).drew.cell? ⟨m.g, 1, none⟩ = some (.slice A0 d.opn.length cap0)) := Lib.hid (HC.out ((w3.alloc (.cells (wrC (a, s)).toArray 120)).drew) ((Below.heap_alloc w3 _ m.g (by have h1 := HZ3.out; have h2 := HDK1.out.blk.lt; omega)).trans HG3.out)).2.1
    have HOW3 : Hid (w3.drew.ownsRow 0 120 65 (.slice A0 d.opn.length cap0) d.opn.length (d.opn.flatMap wrC)) := Lib.hid (by
      have h := own_blk (w' := w3.drew) HDK1.out.opn (fun b hb => HB3.out b (HDK1.out.opn.lt b hb).2 (HN.out.2.2.2.2.2.2.2.1 b hb).2.1)
      rw [HOV.out] at h
      exact h)
    have HUI : Hid ((Try.prog.info? 80).map (·.size) = some (u8s s).length) := Lib.hid (by rw [sec_length HSE.out]; kernel_rfl)
    have HFIN : Hid (∀ (v4 : Value) (w4 : World), w4.ownsRow 0 120 65 v4 (d.opn.length + 1) (d.opn.flatMap wrC ++ wrC (a, s)) → (w3.drew.alloc (.cells (wrC (a, s)).toArray 120)).grownBy w4 (Value.slice A0 d.opn.length cap0).ownBlock → (v4.ownBlock = (Value.slice A0 d.opn.length cap0).ownBlock ∨ v4.ownBlock = some (w3.drew.alloc (.cells (wrC (a, s)).toArray 120)).heap.size) → Blk w4 m.g 78 (diskC m d) ∧ Blk w4 w.heap.size 80 (u8s s).toArray ∧ DK (w4.setCell ⟨m.g, 1, none⟩ v4) (addM m v4) (addD d a s) ∧ DT w m (w4.setCell ⟨m.g, 1, none⟩ v4) (addM m v4)) := Lib.hid (fun v4 w4 hown hgr hblk => by
      rw [← HOV.out] at hgr hblk
      have hz1 : w.heap.size < w1.heap.size := HBX1.out.lt
      have hz3 := HZ3.out
      have hz4 := hgr.size
      have hza : (w3.drew.alloc (.cells (wrC (a, s)).toArray 120)).heap.size = w3.heap.size + 1 := by simp
      rw [hza] at hz4 hblk
      have hovlt : ∀ k, m.ov.ownBlock = some k → k < w.heap.size := fun k hk => (H.out.opn.lt k hk).2
      have hA3 : ∀ k, k < w3.heap.size → m.ov.ownBlock ≠ some k → w4.heap[k]? = w3.heap[k]? := fun k hk hn => (hgr.block k (by rw [hza]; omega) (fun e => hn e.symm)).trans (Below.heap_alloc w3.drew _ k hk)
      have b4 : ∀ k, k < w.heap.size → k ≠ m.bl → m.ov.ownBlock ≠ some k → w4.heap[k]? = w.heap[k]? := fun k hk h1 h2 => (hA3 k (by omega) h2).trans ((HB3.out k (by omega) h1).trans (HB01.out.block k hk))
      have hN := HN.out
      have hg4 : Blk w4 m.g 78 (diskC m d) := (b4 m.g hgl hN.1 (fun e => (hN.2.2.2.2.2.2.2.1 m.g e).1 rfl)).trans H.out.blk
      have hx4 : Blk w4 w.heap.size 80 (u8s s).toArray := (hA3 _ (by omega) (fun e => by have := hovlt _ e; omega)).trans HBX3.out
      have hv4 : v4.ownBlock = m.ov.ownBlock ∨ ∃ k, v4.ownBlock = some k ∧ w.heap.size ≤ k := by
        rcases hblk with e | e
        · exact .inl e
        · exact .inr ⟨_, e, by omega⟩
      have b5 : ∀ k, k ≠ m.g → (w4.setCell ⟨m.g, 1, none⟩ v4).heap[k]? = w4.heap[k]? := fun k hk => Below.heap_setCell w4 ⟨m.g, 1, none⟩ v4 k hk
      have hv4g : ∀ b, v4.ownBlock = some b → b ≠ m.g := fun b hb => by
        rcases hv4 with e | ⟨q, e, hq⟩
        · exact (hN.2.2.2.2.2.2.2.1 b (by rw [← e]; exact hb)).1
        · rw [hb] at e; have := Option.some.inj e; omega
      have hs5 : (w4.setCell ⟨m.g, 1, none⟩ v4).heap.size = w4.heap.size := by simp
      refine ⟨hg4, hx4, ?_, rfl, ⟨hgr.os.trans (HT3.out.os.trans HB01.out.os), hgr.tape.trans (HT3.out.tape.trans HB01.out.tape), hgr.output.trans (HT3.out.output.trans HB01.out.output), by omega, fun k hk hn => ?_⟩, foot_add hv4, fun _ _ h => .inl h⟩
      · refine H.out.re rfl ([m.g, m.bl] ++ m.ov.ownBlock.toList) (fun k hk => by
          simp only [List.mem_append, List.mem_cons, List.not_mem_nil, or_false, Option.mem_toList] at hk
          rcases hk with (rfl | rfl) | hk
          · exact foot_g m
          · exact foot_bl m
          · exact foot_ov hk) (fun k hk hn => by
          simp only [List.mem_append, List.mem_cons, List.not_mem_nil, or_false, not_or, Option.mem_toList] at hn
          exact (b5 k hn.1.1).trans (b4 k hk hn.1.2 hn.2)) (by omega) (hg4.set_ 1 _) (own_blk H.out.sec fun b hb => ?_) ?_ ?_ ?_ ?_ (nd_add H.out.nd H.out.foot_lt hv4) (foot_add hv4) H.out.flv (fun k hk => .inr ⟨rfl, rfl⟩) ?_
        · exact (b5 b (hN.2.2.2.2.2.2.1 b hb).1).trans (b4 b (H.out.sec.lt b hb).2 (hN.2.2.2.2.2.2.1 b hb).2.1 (hN.2.2.2.2.2.2.2.2 b hb))
        · show (w4.setCell ⟨m.g, 1, none⟩ v4).ownsRow 0 _ 65 v4 (d.opn ++ [(a, s)]).length ((d.opn ++ [(a, s)]).flatMap wrC)
          rw [List.length_append, List.flatMap_append, List.flatMap_singleton]
          exact own_blk hown (fun b hb => b5 b (hv4g b hb))
        · show UM _ m.bl (d.room + 1) (lastOf (d.opn ++ [(a, s)]))
          rw [lastOf_snoc]
          exact HUL3.out.of_block ((b5 m.bl (fun e => hN.1 e.symm)).trans (hA3 m.bl HUL3.out.lt (fun e => (hN.2.2.2.2.2.2.2.1 m.bl e).2.1 rfl)))
        · exact (H.out.fl.of_block ((b5 m.bf (fun e => hN.2.1 e.symm)).trans (b4 m.bf H.out.fl.lt (fun e => hN.2.2.2.1 e.symm) (fun e => (hN.2.2.2.2.2.2.2.1 m.bf e).2.2.1 rfl)))).mono (Nat.le_succ _)
        · exact (H.out.cr.of_block ((b5 m.bc (fun e => hN.2.2.1 e.symm)).trans (b4 m.bc H.out.cr.lt (fun e => hN.2.2.2.2.1 e.symm) (fun e => (hN.2.2.2.2.2.2.2.1 m.bc e).2.2.2 rfl)))).mono (Nat.le_succ _)
        · have ok := H.out.ok
          refine ⟨ok.sec, fun p hp => ?_, ok.few, ok.pos, by have := ok.lo; simp [addD]; omega, Nat.le_succ_of_le ok.st, hr, ok.cl⟩
          have hp : p ∈ d.opn ++ [(a, s)] := hp
          rw [List.mem_append, List.mem_singleton] at hp
          rcases hp with hp | rfl
          · exact ok.opn p hp
          · exact ⟨hh2.1, hh2.2, HSE.out⟩
      · exact (b5 k (fun e => hn (by rw [e]; exact foot_g m))).trans (b4 k hk (fun e => hn (by rw [e]; exact foot_bl m)) (fun e => hn (foot_ov e))))
    refine held_start 13 (fun wz => Blk wz w.heap.size 80 (u8s s).toArray) (by kernel_rfl) (by kernel_rfl) (HBX3.out) (fun hHeld => ?_)
    refine hMove 0 (Operand.tmp 0) (some 21) (.pointer (some ⟨m.g, 0, none⟩)) (by kernel_rfl) (by kernel_rfl) (by kernel_rfl) (by kernel_rfl) (by kernel_rfl) (fun _ _ _ h => h) (by exact rfl) hHeld ?_
    simp only [Act.put, List.setIfInBounds_toArray, List.set_cons_zero, List.set_cons_succ]
    refine hMove 1 (Operand.tmp 0) (some 22) (.pointer (some ⟨m.g, 0, none⟩)) (by kernel_rfl) (by kernel_rfl) (by kernel_rfl) (by kernel_rfl) (by kernel_rfl) (fun _ _ _ h => h) (by exact rfl) hHeld ?_
    simp only [Act.put, List.setIfInBounds_toArray, List.set_cons_zero, List.set_cons_succ]
    refine hTake 2 (Op.nilCheck (Operand.tmp 22)) (some 23) (.pointer (some ⟨m.g, 0, none⟩)) (by kernel_rfl) (by kernel_rfl) (by kernel_rfl) (by kernel_rfl) (by kernel_rfl) (fun _ _ _ h => h) (fun o ho wX hX => by unfold execOp; simp only [ho]; go_simp) hHeld ?_
    simp only [Act.put, List.setIfInBounds_toArray, List.set_cons_zero, List.set_cons_succ]
    refine hTake 3 (Op.fieldAddr 78 (Operand.tmp 23) 1) (some 24) (.pointer (some ⟨m.g, 1, none⟩)) (by kernel_rfl) (by kernel_rfl) (by kernel_rfl) (by kernel_rfl) (by kernel_rfl) (fun _ _ _ h => h) (fun o ho wX hX => by unfold execOp; simp only [ho]; go_simp) hHeld ?_
    simp only [Act.put, List.setIfInBounds_toArray, List.set_cons_zero, List.set_cons_succ]
    refine hMove 5 (Operand.tmp 1) (some 26) (.int .i64 a) (by kernel_rfl) (by kernel_rfl) (by kernel_rfl) (by kernel_rfl) (by kernel_rfl) (fun _ _ _ h => h) (by exact rfl) hHeld ?_
    simp only [Act.put, List.setIfInBounds_toArray, List.set_cons_zero, List.set_cons_succ]
    refine hLoad 6 80 (Operand.tmp 5) (some 27) (cs := u8s s) (by kernel_rfl) (by kernel_rfl) (by kernel_rfl) (by kernel_rfl) (by kernel_rfl) (fun _ _ _ h => h) (by exact rfl) (fun _ hX => by have h := Blk.range hX; rw [List.toList_toArray] at h; exact h) Try.underlying80 rfl HUI.out hHeld ?_
    simp only [Act.put, List.setIfInBounds_toArray, List.set_cons_zero, List.set_cons_succ]
    refine hBuildM 7 120 #[(0, Operand.tmp 26), (1, Operand.tmp 27)] (some 28) (vs := [(0, .int .i64 a), (1, .agg (u8s s).toArray)]) (cells := (wrC (a, s)).toArray) (by kernel_rfl) (by kernel_rfl) (by kernel_rfl) (by kernel_rfl) (by kernel_rfl) (fun _ _ _ h => h) (by rfl) (built_wr a s HSE.out) hHeld ?_
    simp only [Act.put, List.setIfInBounds_toArray, List.set_cons_zero, List.set_cons_succ]
    refine wpAnyH_ready (rs := [4, 8]) (by kernel_rfl) (by simp) ?_
    refine rStep 4 (Op.load 76 (Operand.tmp 24)) (some 25) (.slice A0 d.opn.length cap0) (w3.drew) (by kernel_rfl) (by kernel_rfl) (fun o ho => by have hcell := HC1.out; unfold execOp; simp only [ho]; go_simp) HBX3.out ?_ (rLit1M 8 tWr (.tmp 28) (some 29) (by kernel_rfl) (by kernel_rfl) (cs := wrC (a, s)) (by rfl) (wrC_length (p := (a, s)) HSE.out) (by decide) ((Below.heap_alloc w3.drew _ _ HBX3.out.lt).trans HBX3.out) ?_ AllReadyH.nil)
    · simp only [Act.put, List.setIfInBounds_toArray, List.set_cons_zero, List.set_cons_succ]
      refine wpAnyH_ready (rs := [8]) (by kernel_rfl) (by simp) ?_
      refine rLit1M 8 tWr (.tmp 28) (some 29) (by kernel_rfl) (by kernel_rfl) (cs := wrC (a, s)) (by rfl) (wrC_length (p := (a, s)) HSE.out) (by decide) ((Below.heap_alloc w3.drew _ _ HBX3.out.lt).trans HBX3.out) ?_ AllReadyH.nil
      simp only [Act.put, List.setIfInBounds_toArray, List.set_cons_zero, List.set_cons_succ]
      refine wpAnyH_ready (rs := [9]) (by kernel_rfl) (by simp) ?_
      refine rAppR 9 tWr (.tmp 25) (.tmp 29) (some 30) (by kernel_rfl) (by kernel_rfl) (by rfl) (World.ownsRow.alloc HOW3.out _) (by rfl) (Sn.new w3.drew (wrC (a, s)).toArray 120 65 1 (by rw [List.size_toArray, wrC_length (p := (a, s)) HSE.out])) (wrC_one (a, s)) (by unfold maxLen; have := HLE.out; omega) (by have := HLE.out; omega) (Nat.zero_le _) (fun v4 w4 hown hgrow hblk => ?_) AllReadyH.nil
      rw [List.toList_toArray] at hown
      obtain ⟨a4, q4, hv4, _, _⟩ := own_snD hown
      subst hv4
      obtain ⟨hg4, hx4, hdk4, hdt4⟩ := HFIN.out _ w4 hown hgrow hblk
      refine ⟨hx4, fun hH8 => ?_⟩
      simp only [Act.put, List.setIfInBounds_toArray, List.set_cons_zero, List.set_cons_succ]
      refine hTake 10 (Op.nilCheck (Operand.tmp 21)) (some 31) (.pointer (some ⟨m.g, 0, none⟩)) (by kernel_rfl) (by kernel_rfl) (by kernel_rfl) (by kernel_rfl) (by kernel_rfl) (fun _ _ _ h => h) (fun o ho wX hX => by unfold execOp; simp only [ho]; go_simp) (by assumption) ?_
      simp only [Act.put, List.setIfInBounds_toArray, List.set_cons_zero, List.set_cons_succ]
      refine hTake 11 (Op.fieldAddr 78 (Operand.tmp 31) 1) (some 32) (.pointer (some ⟨m.g, 1, none⟩)) (by kernel_rfl) (by kernel_rfl) (by kernel_rfl) (by kernel_rfl) (by kernel_rfl) (fun _ _ _ h => h) (fun o ho wX hX => by unfold execOp; simp only [ho]; go_simp) (by assumption) ?_
      simp only [Act.put, List.setIfInBounds_toArray, List.set_cons_zero, List.set_cons_succ]
      refine wpAnyH_ready (rs := [12]) (by kernel_rfl) (by simp) ?_
      have hc41 := hg4.cell 1
      have hf41 := hg4.frozen 1
      simp only [diskC, List.getElem?_toArray, List.getElem?_cons_succ, List.getElem?_cons_zero, HOV.out] at hc41
      refine rSkipR 12 (Op.store 76 (Operand.tmp 32) (Operand.tmp 30)) none (w4.setCell ⟨m.g, 1, none⟩ (.slice a4 (d.opn.length + 1) q4)) (by kernel_rfl) (by kernel_rfl) (fun o ho => by unfold execOp; simp only [ho]; go_simp) ((Below.heap_setCell w4 ⟨m.g, 1, none⟩ _ _ (fun e => Nat.ne_of_gt hgl e)).trans hx4) ?_ AllReadyH.nil
      simp only [Act.put, List.setIfInBounds_toArray, List.set_cons_zero, List.set_cons_succ]
      refine wpAnyH_done (by kernel_rfl) ?_ _
      have HDK4 := Lib.hid hdk4
      have HDT4 := Lib.hid hdt4
      clear hown hgrow hblk hg4 hx4 hdk4 hdt4 hc41 hf41
      go_wp2_with fail
      go_ret
      exact ⟨rfl, _, HDK4.out, HDT4.out⟩
    · simp only [Act.put, List.setIfInBounds_toArray, List.set_cons_zero, List.set_cons_succ]
      refine wpAnyH_ready (rs := [4]) (by kernel_rfl) (by simp) ?_
      refine rStep 4 (Op.load 76 (Operand.tmp 24)) (some 25) (.slice A0 d.opn.length cap0) ((w3.alloc (.cells (wrC (a, s)).toArray 120)).drew) (by kernel_rfl) (by kernel_rfl) (fun o ho => by have hcell := HC2.out; unfold execOp; simp only [ho]; go_simp) ((Below.heap_alloc w3.drew _ _ HBX3.out.lt).trans HBX3.out) ?_ AllReadyH.nil
      simp only [Act.put, List.setIfInBounds_toArray, List.set_cons_zero, List.set_cons_succ]
      refine wpAnyH_ready (rs := [9]) (by kernel_rfl) (by simp) ?_
      refine rAppR 9 tWr (.tmp 25) (.tmp 29) (some 30) (by kernel_rfl) (by kernel_rfl) (by rfl) (World.ownsRow.alloc HOW3.out _) (by rfl) (Sn.new w3.drew (wrC (a, s)).toArray 120 65 1 (by rw [List.size_toArray, wrC_length (p := (a, s)) HSE.out])) (wrC_one (a, s)) (by unfold maxLen; have := HLE.out; omega) (by have := HLE.out; omega) (Nat.zero_le _) (fun v4 w4 hown hgrow hblk => ?_) AllReadyH.nil
      rw [List.toList_toArray] at hown
      obtain ⟨a4, q4, hv4, _, _⟩ := own_snD hown
      subst hv4
      obtain ⟨hg4, hx4, hdk4, hdt4⟩ := HFIN.out _ w4 hown hgrow hblk
      refine ⟨hx4, fun hH8 => ?_⟩
      simp only [Act.put, List.setIfInBounds_toArray, List.set_cons_zero, List.set_cons_succ]
      refine hTake 10 (Op.nilCheck (Operand.tmp 21)) (some 31) (.pointer (some ⟨m.g, 0, none⟩)) (by kernel_rfl) (by kernel_rfl) (by kernel_rfl) (by kernel_rfl) (by kernel_rfl) (fun _ _ _ h => h) (fun o ho wX hX => by unfold execOp; simp only [ho]; go_simp) (by assumption) ?_
      simp only [Act.put, List.setIfInBounds_toArray, List.set_cons_zero, List.set_cons_succ]
      refine hTake 11 (Op.fieldAddr 78 (Operand.tmp 31) 1) (some 32) (.pointer (some ⟨m.g, 1, none⟩)) (by kernel_rfl) (by kernel_rfl) (by kernel_rfl) (by kernel_rfl) (by kernel_rfl) (fun _ _ _ h => h) (fun o ho wX hX => by unfold execOp; simp only [ho]; go_simp) (by assumption) ?_
      simp only [Act.put, List.setIfInBounds_toArray, List.set_cons_zero, List.set_cons_succ]
      refine wpAnyH_ready (rs := [12]) (by kernel_rfl) (by simp) ?_
      have hc41 := hg4.cell 1
      have hf41 := hg4.frozen 1
      simp only [diskC, List.getElem?_toArray, List.getElem?_cons_succ, List.getElem?_cons_zero, HOV.out] at hc41
      refine rSkipR 12 (Op.store 76 (Operand.tmp 32) (Operand.tmp 30)) none (w4.setCell ⟨m.g, 1, none⟩ (.slice a4 (d.opn.length + 1) q4)) (by kernel_rfl) (by kernel_rfl) (fun o ho => by unfold execOp; simp only [ho]; go_simp) ((Below.heap_setCell w4 ⟨m.g, 1, none⟩ _ _ (fun e => Nat.ne_of_gt hgl e)).trans hx4) ?_ AllReadyH.nil
      simp only [Act.put, List.setIfInBounds_toArray, List.set_cons_zero, List.set_cons_succ]
      refine wpAnyH_done (by kernel_rfl) ?_ _
      have HDK4 := Lib.hid hdk4
      have HDT4 := Lib.hid hdt4
      clear hown hgrow hblk hg4 hx4 hdk4 hdt4 hc41 hf41
      go_wp2_with fail
      go_ret
      exact ⟨rfl, _, HDK4.out, HDT4.out⟩
end Go.Proofs.Ytpkcddnclifcpaa
namespace Go.Proofs.Ytpkcddnclifcpaa
open Go.RowKit
attribute [local irreducible] wpQuiet wpAnyH
set_option linter.unusedSimpArgs false

def cutN (c : Int) : Nat := (min (max c 0) 64).toNat
theorem cutN_le (c : Int) : cutN c ≤ 64 := by unfold cutN; omega
def tearL (old data : List Int) (c : Int) : List Int := data.take (cutN c) ++ old.drop (cutN c)
theorem tearL_sec {old data : List Int} (c : Int) (ho : Sec old) (hd : Sec data) : Sec (tearL old data c) := by
  have h := cutN_le c
  refine ⟨by unfold tearL; rw [List.length_append, List.length_take, List.length_drop, ho.1, hd.1]; omega, fun b hb => ?_⟩
  unfold tearL at hb
  rw [List.mem_append] at hb
  rcases hb with hb | hb
  · exact hd.2 b (List.mem_of_mem_take hb)
  · exact ho.2 b (List.mem_of_mem_drop hb)
set_option maxRecDepth 100000 in
theorem cut_any (c : Int) (w : World) : Calls Try.prog 95 #[.int .i64 c] w fun e w' => e = .returned (.int .i64 (cutN c : Nat)) ∧ w' = w := by
  have h1 : ((cutN c : Nat) : Int) = min (max c 0) 64 := by unfold cutN; omega
  rw [h1]
  clear h1
  by_cases h0 : 0 ≤ c
  · have e1 : max c 0 = c := by omega
    rw [e1]
    by_cases h64 : c ≤ 64
    · have e2 : min c 64 = c := by omega
      rw [e2]
      go_enter Try.func95, Try.ntmps95
      go_wp2_with fail
      go_ret
      exact ⟨by first | rfl | (rw [e1, e2]) | simp [e1, e2], rfl⟩
    · have e2 : min c 64 = 64 := by omega
      rw [e2]
      go_enter Try.func95, Try.ntmps95
      go_wp2_with fail
      go_ret
      exact ⟨by first | rfl | (rw [e1, e2]) | simp [e1, e2], rfl⟩
  · have e1 : max c 0 = 0 := by omega
    rw [e1]
    have e2 : min (0 : Int) 64 = 0 := by omega
    rw [e2]
    go_enter Try.func95, Try.ntmps95
    go_wp2_with fail
    go_ret
    exact ⟨by first | rfl | (rw [e1, e2]) | simp [e1, e2], rfl⟩
section
variable {P : Program} {ops : Array Oper} {Q : Exit → Act → World → Prop} {a : Act} {w : World}
/-- copy of no more than the place takes, in a region that draws its order. -/
theorem rCopyT {S : World → Prop} {listed : Array Bool} {fuel : Nat} {rs : List Nat} (i : Nat) {dT sT elem : TypeId} (p q : Operand) (dst : Option Tmp) (hd : (ops[i]?).map (fun o => (o.op, o.dst)) = some (.call { callee := .builtin .copy, args := #[p, q], argTypes := #[dT, sT] }, dst)) (hw : (ops[i]?).map (fun o => Region.wanted o (yielded ops a.tmps)) = some true)
    {b off dn dc b' off' n cap : Nat} {xs : List Value} (hp : a.eval p = .slice (some ⟨b, off, none⟩) dn dc) (hq : a.eval q = .slice (some ⟨b', off', none⟩) n cap) (hu : P.underlying dT = some (.slice elem)) (hs : (P.info? elem).map (·.size) = some 1) (hn : dn ≤ n) (hl : xs.length = dn) (hx : ∀ j u, xs[j]? = some u → w.cell? ⟨b', off' + j, none⟩ = some u) (ht : w.there b off dn) (h1 : ∀ u ∈ xs, u.oneCell' = true) (hS : S (w.setCells b off xs))
    (h : wpAnyH P .any ops Q S fuel (listed.setIfInBounds i true) (a.put dst (goInt dn)) (w.setCells b off xs)) (hr : AllReadyH P .any ops Q S fuel listed a w rs) : AllReadyH P .any ops Q S fuel listed a w (i :: rs) :=
  rStep i _ dst _ _ hd hw (fun o ho => by
    have hrun := run_copy_cells (P := P) w dT sT o.type elem b off dn dc ⟨b', off', none⟩ n cap xs hu hs (by rw [hl]; exact (Nat.min_eq_right hn).symm) (fun j v hj => by rw [Addr.add_mid]; exact hx j v hj) (fun j hj => (ht j (by omega)).1) (fun j hj => (ht j (by omega)).2) h1
    rw [hl] at hrun
    unfold execOp
    simp only [ho, resolve, invoke, builtin, Sem.run_bind, Sem.run_pure, Result.andThen_ok, List.map_toArray, List.map_cons, List.map_nil, hp, hq, hrun]) hS h hr
end
theorem tear_put (old data : List Int) (k : Nat) (ho : old.length = 64) (hd : data.length = 64) :
    (((u8s data).take k).zipIdx 0).foldl (fun (cs : Array Value) (x : Value × Nat) => cs.setIfInBounds x.2 x.1) (u8s old).toArray = (u8s (data.take k ++ old.drop k)).toArray := by
  have h := part_eqM [] ((u8s old).take k) ((u8s old).drop k) ((u8s data).take k) (by simp [u8s, ho, hd])
  simp only [List.nil_append, List.length_nil, List.take_append_drop] at h
  rw [h, u8s_append, u8s_take, u8s_drop]

set_option maxRecDepth 100000 in
set_option maxHeartbeats 4000000 in
theorem tear_any (old data : List Int) (c : Int) (w : World) (ho : Sec old) (hd : Sec data) :
    Calls Try.prog 90 #[.agg (u8s old).toArray, .agg (u8s data).toArray, .int .i64 c] w fun e w' => e = .returned (.agg (u8s (tearL old data c)).toArray) ∧ Below w.heap.size w w' := by
  have HO := Lib.hid ho
  have HD := Lib.hid hd
  have HTS := Lib.hid (tearL_sec c ho hd)
  have HCU := Lib.hid (fun w1 => cut_any c w1)
  have hk := cutN_le c
  have HTP := Lib.hid (tear_put old data (cutN c) ho.1 hd.1)
  have HTE : Hid (tearL old data c = data.take (cutN c) ++ old.drop (cutN c)) := Lib.hid rfl
  clear ho hd
  obtain ⟨k, hkk⟩ : ∃ k, k = cutN c := ⟨_, rfl⟩
  rw [← hkk] at hk HTP HTE HCU
  clear hkk
  have hal : Try.prog.arrayLen 80 = 64 := by kernel_rfl
  have HSL : Hid (∀ (g : Nat) (W : World), (Instr.sliceAt 80 (.pointer (some ⟨g, 0, none⟩)) none (some (.int .i64 (k : Int))) none).run Try.prog W = .ok (.slice (some ⟨g, 0, none⟩) k 64) W) := Lib.hid (fun g W => by
    rw [run_sliceAt_array_h W 80 ⟨g, 0, none⟩ (by kernel_rfl) .i64 (k : Int) (by omega) (by rw [hal]; omega)]
    go_simp)
  go_enter Try.func90, Try.ntmps90
  go_wp2_with (refine al 80 z64 rfl rfl zero64 ?_)
  obtain ⟨w1, hw1⟩ : ∃ w1, w1 = ((w.alloc (.cells (u8s old).toArray 80)).alloc (.cells (u8s data).toArray 80)).alloc (.cells z64 80) := ⟨_, rfl⟩
  have HB0 : Hid (Blk w1 w.heap.size 80 (u8s old).toArray) := Lib.hid (by rw [hw1]; exact ((Blk.new w _ _).alloc _).alloc _)
  have HB1 : Hid (Blk w1 (w.heap.size + 1) 80 (u8s data).toArray) := Lib.hid (by rw [hw1]; exact (Blk.newAt _ _ _ _ (by simp)).alloc _)
  have HB2 : Hid (Blk w1 (w.heap.size + 1 + 1) 80 z64) := Lib.hid (by rw [hw1]; exact Blk.newAt _ _ _ _ (by simp))
  have HBW : Hid (Below w.heap.size w w1) := Lib.hid (by rw [hw1]; exact (((Below.refl _ w).alloc (Nat.le_refl _) _).alloc (by simp) _).alloc (by simp; omega) _)
  rw [← hw1]
  simp only [World.size_alloc]
  clear hw1
  have HTL : Hid (((u8s data).take k).length = k) := Lib.hid (by rw [List.length_take, sec_length HD.out]; omega)
  have HTX : Hid (∀ j u, ((u8s data).take k)[j]? = some u → w1.drew.cell? ⟨w.heap.size + 1, 0 + j, none⟩ = some u) := Lib.hid (fun j u hj => by
    have h1 := HB1.out.cell (0 + j)
    rw [List.getElem?_take] at hj
    split at hj
    · exact h1.trans (by rw [Nat.zero_add]; simpa using hj)
    · cases hj)
  have HTT : Hid (w1.drew.there w.heap.size 0 k) := Lib.hid (fun j hj => ⟨by
    have h1 := HB0.out.cell (0 + j)
    have h2 : w1.drew.cell? ⟨w.heap.size, 0 + j, none⟩ = w1.cell? ⟨w.heap.size, 0 + j, none⟩ := rfl
    rw [h2, h1, Nat.zero_add, Array.getElem?_eq_getElem (by rw [List.size_toArray, sec_length HO.out]; omega)]; rfl, HB0.out.frozen _⟩)
  have HT1 : Hid (∀ u ∈ (u8s data).take k, u.oneCell' = true) := Lib.hid (fun u hu => u8s_mem _ u (List.mem_of_mem_take hu))
  refine held_start 5 (fun _ => True) (by kernel_rfl) (by kernel_rfl) (trivial) (fun hHeld => ?_)
  refine hMove 0 (Operand.tmp 2) (some 7) (.int .i64 c) (by kernel_rfl) (by kernel_rfl) (by kernel_rfl) (by kernel_rfl) (by kernel_rfl) (fun _ _ _ h => h) (by exact rfl) hHeld ?_
  simp only [Act.put, List.setIfInBounds_toArray, List.set_cons_zero, List.set_cons_succ]
  refine hTake 3 (Op.slice 80 (Operand.tmp 4) none none none) (some 10) (.slice (some ⟨w.heap.size + 1, 0, none⟩) 64 64) (by kernel_rfl) (by kernel_rfl) (by kernel_rfl) (by kernel_rfl) (by kernel_rfl) (fun _ _ _ h => h) (fun o ho wX hX => by unfold execOp; simp only [ho]; go_simp) hHeld ?_
  simp only [Act.put, List.setIfInBounds_toArray, List.set_cons_zero, List.set_cons_succ]
  refine wpAnyH_ready (rs := [1]) (by kernel_rfl) (by simp) ?_
  refine rCall 1 (Op.call { callee := Callee.value (Operand.func 95), args := #[Operand.tmp 7], argTypes := #[3] }) (some 8) 95 (#[.int .i64 c]) (by kernel_rfl) (by kernel_rfl) (fun o ho => by unfold execOp; simp only [ho]; go_simp) ?_ AllReadyH.nil
  refine (HCU.out _).mono ?_
  rintro e wM ⟨rfl, hwM⟩
  rw [hwM]
  refine ⟨_, rfl, trivial, fun hHeld => ?_⟩
  simp only [Act.put, List.setIfInBounds_toArray, List.set_cons_zero, List.set_cons_succ]
  refine hTake 2 (Op.slice 80 (Operand.tmp 3) none (some (Operand.tmp 8)) none) (some 9) (.slice (some ⟨w.heap.size, 0, none⟩) k 64) (by kernel_rfl) (by kernel_rfl) (by kernel_rfl) (by kernel_rfl) (by kernel_rfl) (fun _ _ _ h => h) (fun o ho wX hX => by have hsl := HSL.out; unfold execOp; simp only [ho]; go_simp) hHeld ?_
  simp only [Act.put, List.setIfInBounds_toArray, List.set_cons_zero, List.set_cons_succ]
  refine wpAnyH_ready (rs := [4]) (by kernel_rfl) (by simp) ?_
  refine rCopyT (sT := 88) 4 (.tmp 9) (.tmp 10) (some 11) (by kernel_rfl) (by kernel_rfl) (by rfl) (by rfl) Try.underlying88 (by kernel_rfl) hk HTL.out HTX.out HTT.out HT1.out trivial ?_ AllReadyH.nil
  simp only [Act.put, List.setIfInBounds_toArray, List.set_cons_zero, List.set_cons_succ]
  refine wpAnyH_done (by kernel_rfl) ?_ _
  clear hHeld
  obtain ⟨w2, hw2⟩ : ∃ w2, w2 = w1.drew.setCells w.heap.size 0 ((u8s data).take k) := ⟨_, rfl⟩
  have HB02 : Hid (Blk w2 w.heap.size 80 (u8s (tearL old data c)).toArray) := Lib.hid (by
    have h := setCells_blk ((u8s data).take k) 0 w1.drew _ HB0.out
    rw [HTP.out, ← HTE.out] at h
    rw [hw2]; exact h)
  have HB22 : Hid (Blk w2 (w.heap.size + 1 + 1) 80 z64) := Lib.hid (by rw [hw2]; exact (setCells_other (by omega) _ _ _).trans HB2.out)
  have HBW2 : Hid (Below w.heap.size w w2) := Lib.hid (by rw [hw2]; exact HBW.out.drew.trans (setCells_below (Nat.le_refl _) _ _ _).1)
  rw [← hw2]
  clear hw2
  have HUI : Hid ((Try.prog.info? 80).map (·.size) = some (u8s (tearL old data c)).length) := Lib.hid (by rw [sec_length HTS.out]; kernel_rfl)
  have HUJ : Hid ((Try.prog.info? 80).map (·.size) = some (u8s (tearL old data c)).toArray.size ∧ z64.size = (u8s (tearL old data c)).toArray.size ∧ (u8s (tearL old data c)).toArray.all (·.oneCell') = true) := Lib.hid ⟨by rw [List.size_toArray, sec_length HTS.out]; kernel_rfl, by rw [z64_size, List.size_toArray, sec_length HTS.out], u8s_one _⟩
  obtain ⟨T, hT⟩ : ∃ T, T = u8s (tearL old data c) := ⟨_, rfl⟩
  rw [← hT] at HB02 HUI HUJ
  have HTQ := Lib.hid hT
  have HRG : Hid (w2.rangeAt w.heap.size 0 T) := Lib.hid (by have h := HB02.out.range; rw [List.toList_toArray] at h; exact h)
  clear hT
  go_wp2_with (first
    | (refine ld 80 _ rfl rfl rfl HRG.out Try.underlying80 rfl HUI.out ?_)
    | (refine stBlk 80 (.tmp 6) (.tmp 12) rfl rfl rfl rfl HB22.out HUJ.out.1 HUJ.out.2.1 HUJ.out.2.2 ?_; intro w3 hB3 hb3 _ _; have HB3 := Lib.hid hB3; have HE3 := Lib.hid hb3; clear hB3 hb3))
  exact bodyPost_ret (results_cell_row rfl _ _ (w.heap.size + 1 + 1) 80 _ (0, 0) _ rfl HB3.out Try.underlying80 rfl HUJ.out.1) rfl ⟨by rw [← HTQ.out], HBW2.out.trans (HE3.out.mono (by omega))⟩
end Go.Proofs.Ytpkcddnclifcpaa
namespace Go.Proofs.Ytpkcddnclifcpaa
open Go.RowKit Go.ChangeShapes Go.WideShapes Go.Deep
section
variable {P : Program} {H : Type} {enc : TypeId × Value → H} {w : World} {base : Nat} {held : Bool} {α : Type}
theorem flat_length (C : α → List Value) (Ok : α → Prop) (s : Nat) (hlen : ∀ r, Ok r → (C r).length = s) : ∀ l : List α, (∀ r ∈ l, Ok r) → (l.flatMap C).length = l.length * s
  | [], _ => by simp
  | r :: l, h => by
    have := flat_length C Ok s hlen l (fun r hr => h r (by simp [hr]))
    simp [List.flatMap_cons, hlen r (h r (by simp)), this, Nat.add_mul]
    omega
theorem open_elems (C : α → List Value) (Ok : α → Prop) (s : Nat) (hs : 0 < s) (hlen : ∀ r, Ok r → (C r).length = s) {t e : TypeId} (ht : P.underlying t = some (.slice e)) (hC : P.cellsOf e = s)
    (helem : ∀ (fuel : Nat) (cs : List Value) (x : DataW H × List MemPlace), DataW.trod enc P w base (fun _ => true) held fuel e cs = some x → ∃ r, Ok r ∧ cs = C r)
    {fuel : Nat} {A : Option Addr} {len cap : Nat} {x : DataW H × List MemPlace} (h : DataW.trod enc P w base (fun _ => true) held fuel t [.slice A len cap] = some x) :
    ∃ l : List α, l.length = len ∧ (∀ r ∈ l, Ok r) ∧ Sn w s (.slice A len cap) len (l.flatMap C) := by
  rcases open_slice ht h with ⟨h0, _⟩ | ⟨a, len', cap', m, n, D, Pl, hcs, hb, hl, hm, hmm, _, hi⟩
  · simp only [List.cons.injEq, Value.slice.injEq, and_true] at h0
    obtain ⟨rfl, rfl, rfl⟩ := h0
    exact ⟨[], rfl, fun _ h => (by cases h), ⟨none, 0, rfl, Nat.le_refl _, by simp, fun h => absurd h (by omega)⟩⟩
  · simp only [List.cons.injEq, Value.slice.injEq, and_true] at hcs
    obtain ⟨rfl, rfl, rfl⟩ := hcs
    simp only [if_true] at hmm
    subst hmm
    rw [hC] at hi
    have key : ∀ k, k ≤ len → ∃ l : List α, l.length = k ∧ (∀ r ∈ l, Ok r) ∧ ∀ j u, (l.flatMap C)[j]? = some u → w.cell? (a.add j) = some u := by
      intro k
      induction k with
      | zero => exact fun _ => ⟨[], rfl, fun _ h => (by cases h), fun j u h => by simp at h⟩
      | succ k ih =>
        intro hk
        obtain ⟨l, hll, hok, hc⟩ := ih (by omega)
        obtain ⟨cs', hcs', ht'⟩ := hi k (by omega)
        obtain ⟨r, hr, rfl⟩ := helem _ _ _ ht'
        obtain ⟨_, hlen', hat⟩ := World.cells?_some hcs'
        have hfl := flat_length C Ok s hlen l hok
        rw [hll] at hfl
        refine ⟨l ++ [r], by simp [hll], fun r' hr' => ?_, fun j u hj => ?_⟩
        · rcases List.mem_append.1 hr' with h1 | h1
          · exact hok r' h1
          · simp at h1; subst h1; exact hr
        · rw [List.flatMap_append] at hj
          by_cases hjk : j < k * s
          · rw [List.getElem?_append_left (by omega)] at hj
            exact hc j u hj
          · rw [List.getElem?_append_right (by omega), hfl] at hj
            simp only [List.flatMap_cons, List.flatMap_nil, List.append_nil] at hj
            have hlt : j - k * s < s := by
              have := (List.getElem?_eq_some_iff.1 hj).1
              rw [hlen r hr] at this; exact this
            have := hat (j - k * s) hlt
            rw [Go.Deep.add_add, show k * s + (j - k * s) = j from by omega] at this
            rw [this]; exact hj
    obtain ⟨l, hll, hok, hc⟩ := key len (Nat.le_refl _)
    have hfl := flat_length C Ok s hlen l hok
    rw [hll] at hfl
    refine ⟨l, hll, hok, some a, _, rfl, hl, hfl, fun hp => ?_⟩
    obtain ⟨b, off, spot⟩ := a
    have hne : ∃ u, (l.flatMap C)[0]? = some u := by
      have : 0 < (l.flatMap C).length := by rw [hfl]; exact Nat.mul_pos hp hs
      exact ⟨_, List.getElem?_eq_getElem this⟩
    obtain ⟨u, hu⟩ := hne
    have hspot : spot = none := by simpa [Addr.add] using World.cell?_spot (hc 0 u hu)
    subst hspot
    refine ⟨b, off, rfl, fun j u hj => ?_⟩
    have := hc j u hj
    by_cases hj0 : j = 0
    · subst hj0; simpa [Addr.add] using this
    · simpa [Addr.add, hj0] using this
/-- The cells of element k. -/
theorem at_elem (C : α → List Value) (Ok : α → Prop) (s : Nat) (hlen : ∀ r, Ok r → (C r).length = s) {A : Option Addr} {cap : Nat} {l : List α} (h : Sn w s (.slice A l.length cap) l.length (l.flatMap C)) (hok : ∀ r ∈ l, Ok r) (k : Nat) (hk : k < l.length) :
    ∃ b off, A = some ⟨b, off, none⟩ ∧ ∀ j u, (C l[k])[j]? = some u → w.cell? ⟨b, off + k * s + j, none⟩ = some u := by
  obtain ⟨A', cap', hv, hc, hl, hx⟩ := h
  injection hv with hA _ _
  subst hA
  obtain ⟨b, off, rfl, hcell⟩ := hx (by omega)
  refine ⟨b, off, rfl, fun j u hj => ?_⟩
  have h1 := flat_length C Ok s hlen (l.take k) (fun r hr => hok r (List.mem_of_mem_take hr))
  rw [List.length_take, Nat.min_eq_left (by omega)] at h1
  have key : (l.flatMap C)[k * s + j]? = some u := by
    have e : l.flatMap C = (l.take k).flatMap C ++ (C l[k] ++ (l.drop (k + 1)).flatMap C) := by
      conv => lhs; rw [← List.take_append_drop k l, List.drop_eq_getElem_cons hk]
      rw [List.flatMap_append, List.flatMap_cons]
    rw [e, List.getElem?_append_right (by omega), h1, Nat.add_sub_cancel_left, List.getElem?_append_left]
    · exact hj
    · exact (List.getElem?_eq_some_iff.1 hj).1
  have := hcell (k * s + j) u key
  rw [← Nat.add_assoc] at this
  exact this
end
end Go.Proofs.Ytpkcddnclifcpaa
namespace Go.Proofs.Ytpkcddnclifcpaa
open Go.RowKit
theorem own_set {α : Type} (C : α → List Value) (Ok : α → Prop) (s : Nat) (hlen : ∀ r, Ok r → (C r).length = s) {w : World} {base e g cap : Nat} {L : List α} (hown : w.ownsRow base e s (.slice (some ⟨g, 0, none⟩) L.length cap) L.length (L.flatMap C)) (hok : ∀ r ∈ L, Ok r) (k : Nat) (hk : k < L.length) (p : α) (hp : Ok p) :
    (w.setCells g (k * s) (C p)).ownsRow base e s (.slice (some ⟨g, 0, none⟩) L.length cap) (L.set k p).length ((L.set k p).flatMap C) ∧ w.there g (k * s) (C p).length ∧ base ≤ g := by
  obtain ⟨hl, h | ⟨g', cap', cur, hv, hb, hh, hc1, hm, hcs, htk⟩⟩ := hown
  · cases h.1
  · injection hv with hv1 _ hv2
    injection hv1 with hv1
    injection hv1 with hv1 _ _
    subst hv1 hv2
    have hB : Blk w g e cur := hh
    have hcp := hlen p hp
    have hlk := hlen L[k] (hok _ (List.getElem_mem hk))
    have e1 : L.flatMap C = (L.take k).flatMap C ++ (C L[k] ++ (L.drop (k + 1)).flatMap C) := by
      conv => lhs; rw [← List.take_append_drop k L, List.drop_eq_getElem_cons hk]
      rw [List.flatMap_append, List.flatMap_cons]
    have e2 : (L.set k p).flatMap C = (L.take k).flatMap C ++ (C p ++ (L.drop (k + 1)).flatMap C) := by
      rw [List.set_eq_take_append_cons_drop, if_pos hk, List.flatMap_append, List.flatMap_cons]
    have h1 := flat_length C Ok s hlen (L.take k) (fun r hr => hok r (List.mem_of_mem_take hr))
    rw [List.length_take, Nat.min_eq_left (by omega)] at h1
    have hks : k * s + s ≤ L.length * s := by
      have := Nat.mul_le_mul_right s (show k + 1 ≤ L.length from hk)
      rw [Nat.add_mul, Nat.one_mul] at this; exact this
    have hLc := Nat.mul_le_mul_right s hc1
    have hl1 := hl
    rw [e1] at htk
    refine ⟨⟨?_, .inr ⟨g, cap, _, by rw [List.length_set], hb, setCells_blk (C p) (k * s) w cur hB, by rw [List.length_set]; exact hc1, hm, by rw [build_size]; exact hcs, ?_⟩⟩, fun j hj => ⟨?_, hB.frozen _⟩, hb⟩
    · rw [e2, List.length_set]
      rw [e1] at hl
      simp only [List.length_append] at hl ⊢
      omega
    · rw [List.length_set, e2]
      apply List.ext_getElem?
      intro i
      have hold : ((L.take k).flatMap C ++ (C L[k] ++ (L.drop (k + 1)).flatMap C))[i]? = if i < L.length * s then cur[i]? else none := by
        rw [← htk, List.getElem?_take]; simp
      rw [List.getElem?_take, Array.getElem?_toList, set_many, hcp]
      by_cases i1 : i < k * s
      · rw [if_pos (by omega), if_neg (by omega), List.getElem?_append_left (by omega)]
        rw [List.getElem?_append_left (by omega), if_pos (by omega)] at hold
        exact hold.symm
      · rw [List.getElem?_append_right (by omega), h1]
        rw [List.getElem?_append_right (by omega), h1] at hold
        by_cases i2 : i < k * s + s
        · rw [if_pos (by omega), if_pos (by omega), List.getElem?_append_left (by omega)]
        · rw [List.getElem?_append_right (by omega)] at hold ⊢
          rw [hcp]
          rw [hlk] at hold
          rw [hold]
          by_cases i3 : i < L.length * s
          · rw [if_pos i3, if_pos i3, if_neg (by omega)]
          · rw [if_neg i3, if_neg i3]
    · rw [hB.cell]
      have : k * s + j < cur.size := by omega
      simp [this]
/-- The store. -/
theorem stOwn {P : Program} {ops : Array Oper} {rest : List Oper} {o : Oper} {a : Act} {w : World} {Q : Exit → Act → World → Prop} {α : Type} (C : α → List Value) (Ok : α → Prop) (s : Nat) (hlen : ∀ r, Ok r → (C r).length = s) (ty : TypeId) (x y : Operand) (ho : o.op = .store ty x y) (hw : Region.wanted o (yielded ops a.tmps) = true)
    {base e g cap off : Nat} {L : List α} {p : α} {k : Nat} {cs : Array Value} (hx : a.eval x = .pointer (some ⟨g, off, none⟩)) (hoff : off = k * s) (hy : a.eval y = .agg cs) (hcs : cs = (C p).toArray)
    (hown : w.ownsRow base e s (.slice (some ⟨g, 0, none⟩) L.length cap) L.length (L.flatMap C)) (hok : ∀ r ∈ L, Ok r) (hk : k < L.length) (hp : Ok p)
    (hi : (P.info? ty).map (·.size) = some s) (h1 : ∀ u ∈ C p, u.oneCell' = true)
    (h : ∀ w2, w2.ownsRow base e s (.slice (some ⟨g, 0, none⟩) L.length cap) (L.set k p).length ((L.set k p).flatMap C) → Below base w w2 → w2.heap.size = w.heap.size → wpList P ops Q rest (a.put o.dst undef) w2) :
    wpList P ops Q (o :: rest) a w :=
  wpList_step fun K hK => by
    rw [if_pos hw]
    subst hcs hoff
    obtain ⟨q1, q2, q3⟩ := own_set C Ok s hlen hown hok k hk p hp
    have hcp := hlen p hp
    refine wp_store_mid ty x y ho g (k * s) (C p).toArray hx hy (by simpa using q2) (by rw [hi]; simp [hcp]) (all_oneCell_toArray h1) ?_
    rw [List.toList_toArray]
    obtain ⟨b1, b2⟩ := setCells_below q3 (C p) (k * s) w
    exact hK _ _ (h _ q1 b1 b2)
end Go.Proofs.Ytpkcddnclifcpaa
