/- Parts: disk.Write. | disk.Sync. | disk.CrashAt and disk.Fail. | Errors that are a code or a fault, not wrapped: fault.Code and fault.Place of them. -/
import Derived.Test.YtombncedfleljaaGreatMK16
import Derived.Test.YtombncedfleljaaGreatMK1
import Derived.Defers
import Derived.Recover
import Derived.Deep.QuietTactic
import Derived.BigQuiet
namespace Go.Proofs.YtombncedfleljaaGreat
open Go.RowKit
attribute [local irreducible] wpQuiet wpAnyH
set_option linter.unusedSimpArgs false

def addIf (d : DiskD) (a : Int) (s : List Int) : DiskD := if hasB d a then addD d a s else d
/-- What a write does to a disk, and its answer. -/
def writeD (d : DiskD) (a : Int) (s : List Int) : DiskD :=
  if d.down then d else if outS d = 2 then crashD (addIf (stepped d) a s) (cutsS d) else if outS d = 1 then stepped d else addIf (stepped d) a s
def writeE (d : DiskD) (a : Int) : Value :=
  if d.down then codeV 12 else if outS d = 2 then codeV 12 else if outS d = 1 then codeV 11 else if hasB d a then .nilIface else faultV 15 a
theorem outS_cases (d : DiskD) : outS d = 2 ∨ outS d = 1 ∨ outS d = 0 := by
  unfold outS
  cases (d.cr ((d.steps + 1 : Nat) : Int)).isSome <;> cases d.fl ((d.steps + 1 : Nat) : Int) <;> simp
theorem hasB_stepped (d : DiskD) (a : Int) : hasB (stepped d) a = hasB d a := rfl
theorem addIf_room (d : DiskD) (a : Int) (s : List Int) : (addIf d a s).room ≤ d.room + 1 := by unfold addIf; split <;> simp [addD]
theorem cutsS_len {d : DiskD} (h : DOk d) : (cutsS d).length ≤ 1000000 := by
  unfold cutsS
  cases hc : d.cr ((d.steps + 1 : Nat) : Int) with
  | none => simp
  | some cs => exact h.cl _ cs hc
theorem foot_step (m : DiskM) (d : DiskD) : foot (stepM m d) = foot m := rfl
theorem DT.off {w w' : World} {m m' : DiskM} (h : DT w m w' m') {b : Nat} (hb : b < w.heap.size) (hn : b ∉ foot m) : w'.heap[b]? = w.heap[b]? := h.fo.block b hb hn
theorem DK.notFoot {w : World} {m : DiskM} {d : DiskD} (h : DK w m d) {b : Nat} (hb : w.heap.size ≤ b) : b ∉ foot m := fun hm => by have := h.foot_lt b hm; omega

set_option maxRecDepth 100000 in
set_option maxHeartbeats 4000000 in
theorem disk_write (a : Int) (s : List Int) (w : World) (m : DiskM) (d : DiskD) (h : DK w m d) (ha : isI64 a) (hs : Sec s) (hr : d.room + 2 ≤ 100000) :
    Calls Tryz.prog 81 #[.pointer (some ⟨m.g, 0, none⟩), .int .i64 a, .agg (u8s s).toArray] w fun e w' => e = .returned (writeE d a) ∧ ∃ m', DK w' m' (writeD d a s) ∧ DT w m w' m' := by
  have hgl := h.blk.lt
  have H := Lib.hid h
  have hB0 : Below w.heap.size w (w.alloc (.cells (u8s s).toArray 144)) := (Below.refl _ _).alloc (Nat.le_refl _) _
  have HB0 := Lib.hid hB0
  have hc3 : (w.alloc (.cells (u8s s).toArray 144)).cell? ⟨m.g, 3, none⟩ = some (.bool d.down) := (h.keep hB0).blk.cell 3
  have hst := h.ok.st
  have HK0 := Lib.hid (h.keep hB0)
  have HBX0 : Hid (Blk (w.alloc (.cells (u8s s).toArray 144)) w.heap.size 144 (u8s s).toArray) := Lib.hid (Blk.new w _ _)
  have HSS := Lib.hid hs
  have HAA := Lib.hid ha
  have HUI : Hid ((Tryz.prog.info? 144).map (·.size) = some (u8s s).length) := Lib.hid (by rw [sec_length hs]; kernel_rfl)
  clear h hB0 hs ha
  cases hd : d.down with
  | true =>
    rw [hd] at hc3
    have HF : Hid (writeE d a = codeV 12 ∧ writeD d a s = d) := Lib.hid (by unfold writeE writeD; rw [hd]; exact ⟨rfl, rfl⟩)
    clear hd
    go_enter Tryz.func81, Tryz.ntmps81
    go_wp2_with fail
    go_ret
    exact ⟨by rw [HF.out.1]; rfl, m, by rw [HF.out.2]; exact HK0.out, DT.of_below HB0.out⟩
  | false =>
    rw [hd] at hc3
    obtain ⟨w0, hw0⟩ : ∃ w0, w0 = w.alloc (.cells (u8s s).toArray 144) := ⟨_, rfl⟩
    have HW0 : Hid (w.alloc (.cells (u8s s).toArray 144) = w0) := Lib.hid hw0.symm
    have HSTP := Lib.hid (disk_step _ m d HK0.out (by omega))
    have HNB : Hid (w.heap.size ∉ foot m) := Lib.hid (H.out.notFoot (Nat.le_refl _))
    have hsz : w.heap.size < (w.alloc (.cells (u8s s).toArray 144)).heap.size := by simp
    have HSZ := Lib.hid hsz
    clear hsz
    have HCL := Lib.hid (cutsS_len H.out.ok)
    clear hw0
    have HSTEP : Hid (Calls Tryz.prog 89 #[.pointer (some ⟨m.g, 0, none⟩)] (w.alloc (.cells (u8s s).toArray 144)) fun e w' => ∃ A c, e = .returned (.tuple #[.int .i64 (outS d), .slice A (cutsS d).length c]) ∧ Sn w' 1 (.slice A (cutsS d).length c) (cutsS d).length (i64s (cutsS d)) ∧ (∀ b, (Value.slice A (cutsS d).length c).ownBlock = some b → b ∉ foot m ∧ b < w'.heap.size) ∧ DK w' (stepM m d) (stepped d) ∧ DT w m w' (stepM m d) ∧ Blk w' w.heap.size 144 (u8s s).toArray) := Lib.hid (HSTP.out.mono (by
      rintro e w' ⟨v, rfl, h1, h2, h3, h4⟩
      obtain ⟨A, c, rfl, _⟩ := id h1
      exact ⟨A, c, rfl, h1, h2, h3, (DT.of_below HB0.out).trans h4, (h4.off HSZ.out HNB.out).trans HBX0.out⟩))
    clear HSTP HW0
    have hro : (stepped d).room ≤ d.room + 1 := by show max d.room (d.steps + 1) ≤ d.room + 1; omega
    have HADD := Lib.hid (fun (w1 : World) (hk : DK w1 (stepM m d) (stepped d)) => disk_add a s w1 (stepM m d) (stepped d) hk HAA.out HSS.out (by omega))
    rw [hasB_stepped] at HADD
    rcases outS_cases d with ho | ho | ho
    · have HF : Hid (writeE d a = codeV 12 ∧ writeD d a s = crashD (addIf (stepped d) a s) (cutsS d)) := Lib.hid (by unfold writeE writeD; rw [hd, ho]; exact ⟨rfl, rfl⟩)
      rw [ho] at HSTEP
      have HAI : Hid ((if hasB d a then addD (stepped d) a s else stepped d) = addIf (stepped d) a s) := Lib.hid (by unfold addIf; rw [hasB_stepped])
      rw [HAI.out] at HADD
      clear hd ho
      obtain ⟨cl, hcl⟩ : ∃ cl, cl = cutsS d := ⟨_, rfl⟩
      rw [← hcl] at HSTEP HF HCL
      clear hcl HAI
      go_enter Tryz.func81, Tryz.ntmps81
      go_wp2_with (first
        | (go_at_call 89; refine HSTEP.out.mono ?_; rintro e w1 ⟨A, c, rfl, h1, h2, h3, h4, h5⟩; have H1 := Lib.hid h1; have H2 := Lib.hid h2; have H3 := Lib.hid h3; have H4 := Lib.hid h4; have HRG : Hid (w1.rangeAt w.heap.size 0 (u8s s)) := Lib.hid (by have h := h5.range; rw [List.toList_toArray] at h; exact h); clear h1 h2 h3 h4 h5)
        | (refine ld 144 _ rfl rfl rfl HRG.out Tryz.underlying144 rfl HUI.out ?_)
        | (go_at_call 104; refine (HADD.out w1 H3.out).mono ?_; rintro e w2 ⟨rfl, m2, h6, h7⟩; have H6 := Lib.hid h6; have H7 := Lib.hid h7; have H8 := Lib.hid (h7.fo.sn H1.out (fun b hb => (H2.out b hb).1)); have hg2 : m2.g = m.g := h7.g; have HG2 := Lib.hid hg2; clear h6 h7 hg2)
        | (go_at_call 16; rw [← HG2.out]; refine (disk_crash cl A c w2 m2 _ H6.out H8.out HCL.out).mono ?_; rintro e w3 ⟨rfl, m3, h9, h10⟩; have H9 := Lib.hid h9; have H10 := Lib.hid h10; clear h9 h10))
      go_ret
      exact ⟨by rw [HF.out.1]; rfl, m3, by rw [HF.out.2]; exact H9.out, H4.out.trans (H7.out.trans H10.out)⟩
    · have HF : Hid (writeE d a = codeV 11 ∧ writeD d a s = stepped d) := Lib.hid (by unfold writeE writeD; rw [hd, ho]; exact ⟨rfl, rfl⟩)
      rw [ho] at HSTEP
      clear hd ho
      go_enter Tryz.func81, Tryz.ntmps81
      go_wp2_with (go_at_call 89; refine HSTEP.out.mono ?_; rintro e w1 ⟨A, c, rfl, h1, h2, h3, h4, h5⟩; have H3 := Lib.hid h3; have H4 := Lib.hid h4; clear h1 h2 h3 h4 h5)
      go_ret
      exact ⟨by rw [HF.out.1]; rfl, _, by rw [HF.out.2]; exact H3.out, H4.out⟩
    · rw [ho] at HSTEP
      have HFN := Lib.hid (fun w1 => fault_new15 a w1)
      cases hh : hasB d a with
      | true =>
        have HF : Hid (writeE d a = .nilIface ∧ writeD d a s = addD (stepped d) a s) := Lib.hid (by unfold writeE writeD addIf; rw [hd, ho, hasB_stepped, hh]; exact ⟨rfl, rfl⟩)
        rw [hh] at HADD
        have HADD : Hid (∀ w1, DK w1 (stepM m d) (stepped d) → Calls Tryz.prog 104 #[.pointer (some ⟨(stepM m d).g, 0, none⟩), .int .i64 a, .agg (u8s s).toArray] w1 fun e w' => e = .returned (.bool true) ∧ ∃ m', DK w' m' (addD (stepped d) a s) ∧ DT w1 (stepM m d) w' m') := HADD
        clear hd ho hh
        go_enter Tryz.func81, Tryz.ntmps81
        go_wp2_with (first
          | (go_at_call 89; refine HSTEP.out.mono ?_; rintro e w1 ⟨A, c, rfl, h1, h2, h3, h4, h5⟩; have H3 := Lib.hid h3; have H4 := Lib.hid h4; have HRG : Hid (w1.rangeAt w.heap.size 0 (u8s s)) := Lib.hid (by have h := h5.range; rw [List.toList_toArray] at h; exact h); clear h1 h2 h3 h4 h5)
          | (refine ld 144 _ rfl rfl rfl HRG.out Tryz.underlying144 rfl HUI.out ?_)
          | (go_at_call 104; refine (HADD.out w1 H3.out).mono ?_; rintro e w2 ⟨rfl, m2, h6, h7⟩; have H6 := Lib.hid h6; have H7 := Lib.hid h7; clear h6 h7))
        go_ret
        exact ⟨by rw [HF.out.1]; rfl, m2, by rw [HF.out.2]; exact H6.out, H4.out.trans H7.out⟩
      | false =>
        have HF : Hid (writeE d a = faultV 15 a ∧ writeD d a s = stepped d) := Lib.hid (by unfold writeE writeD addIf; rw [hd, ho, hasB_stepped, hh]; exact ⟨rfl, rfl⟩)
        rw [hh] at HADD
        have HADD : Hid (∀ w1, DK w1 (stepM m d) (stepped d) → Calls Tryz.prog 104 #[.pointer (some ⟨(stepM m d).g, 0, none⟩), .int .i64 a, .agg (u8s s).toArray] w1 fun e w' => e = .returned (.bool false) ∧ ∃ m', DK w' m' (stepped d) ∧ DT w1 (stepM m d) w' m') := HADD
        clear hd ho hh
        go_enter Tryz.func81, Tryz.ntmps81
        go_wp2_with (first
          | (go_at_call 89; refine HSTEP.out.mono ?_; rintro e w1 ⟨A, c, rfl, h1, h2, h3, h4, h5⟩; have H3 := Lib.hid h3; have H4 := Lib.hid h4; have HRG : Hid (w1.rangeAt w.heap.size 0 (u8s s)) := Lib.hid (by have h := h5.range; rw [List.toList_toArray] at h; exact h); clear h1 h2 h3 h4 h5)
          | (refine ld 144 _ rfl rfl rfl HRG.out Tryz.underlying144 rfl HUI.out ?_)
          | (go_at_call 104; refine (HADD.out w1 H3.out).mono ?_; rintro e w2 ⟨rfl, m2, h6, h7⟩; have H6 := Lib.hid h6; have H7 := Lib.hid h7; clear h6 h7)
          | (go_at_call 105; refine (HFN.out _).mono ?_; rintro e w3 ⟨rfl, hw3⟩; rw [hw3]; clear hw3))
        go_ret
        exact ⟨by rw [HF.out.1]; rfl, m2, by rw [HF.out.2]; exact H6.out, H4.out.trans H7.out⟩
end Go.Proofs.YtombncedfleljaaGreat
namespace Go.Proofs.YtombncedfleljaaGreat
open Go.RowKit
attribute [local irreducible] wpQuiet wpAnyH
set_option linter.unusedSimpArgs false

def syncN (r : List (List Int)) (l : List (Int × List Int)) : Nat → List (List Int)
  | 0 => r
  | j + 1 => (syncN r l j).set (l.getD j (0, [])).1.toNat (l.getD j (0, [])).2
theorem syncN_len (r : List (List Int)) (l : List (Int × List Int)) : ∀ j, (syncN r l j).length = r.length
  | 0 => rfl
  | j + 1 => by unfold syncN; rw [List.length_set, syncN_len r l j]
def syncD (d : DiskD) : DiskD := { d with sec := syncN d.sec d.opn d.opn.length, opn := [] }
def syncS (d : DiskD) : DiskD := if d.down then d else if outS d = 2 then crashD (stepped d) (cutsS d) else if outS d = 1 then stepped d else syncD (stepped d)
def syncE (d : DiskD) : Value := if d.down then codeV 12 else if outS d = 2 then codeV 12 else if outS d = 1 then codeV 11 else .nilIface
/-- The box of a write and the disk's first cell stand. -/
def SBG (g gs n cs b : Nat) (p : Int × List Int) (w : World) : Prop := w.rangeAt b 0 (wrC p) ∧ w.cell? ⟨g, 0, none⟩ = some (.slice (some ⟨gs, 0, none⟩) n cs)
/-- A sector is written in place. -/
theorem DK.setSec {w : World} {m : DiskM} {d : DiskD} (h : DK w m d) {gs cap : Nat} (hv : m.sv = .slice (some ⟨gs, 0, none⟩) d.sec.length cap) (k : Nat) (hk : k < d.sec.length) (s : List Int) (hs : Sec s) :
    DK (w.setCells gs (k * 64) (u8s s)) m (secD d (d.sec.set k s)) ∧ DT w m (w.setCells gs (k * 64) (u8s s)) m ∧ w.there gs (k * 64) (u8s s).length := by
  have hn := foot_nd h.nd
  have hsv : m.sv.ownBlock = some gs := by rw [hv]; rfl
  have hg := hn.2.2.2.2.2.2.1 gs hsv
  have hown := h.sec
  rw [hv] at hown
  obtain ⟨q1, q2, _⟩ := own_set u8s Sec 64 (fun r h => sec_length h) hown h.ok.sec k hk s hs
  rw [List.length_set] at q1
  have ho : ∀ b, b ≠ gs → (w.setCells gs (k * 64) (u8s s)).heap[b]? = w.heap[b]? := fun b hb => setCells_other hb _ _ _
  have hsz := (setCells_below (b := gs) (B := 0) (Nat.zero_le _) (u8s s) (k * 64) w).2
  have hb0 := (setCells_below (b := gs) (B := 0) (Nat.zero_le _) (u8s s) (k * 64) w).1
  refine ⟨h.re rfl [gs] (fun b hb => by rw [List.mem_singleton] at hb; rw [hb]; exact foot_sv hsv) (fun b _ hb => ho b (by simpa using hb)) (by omega) ((ho m.g (fun e => hg.1 e.symm)).trans h.blk) ?_ (own_blk h.opn fun b hx => ho b (fun e => hn.2.2.2.2.2.2.2.2 gs hsv (e ▸ hx))) (h.last.of_block (ho _ (fun e => hg.2.1 e.symm))) (h.fl.of_block (ho _ (fun e => hg.2.2.1 e.symm))) (h.cr.of_block (ho _ (fun e => hg.2.2.2 e.symm))) h.nd (fun b hb => .inl hb) h.flv (fun k hk => .inr ⟨rfl, rfl⟩) ⟨fun x hx => ?_, fun p hp => ?_, ?_, h.ok.lo, h.ok.st, h.ok.rm, h.ok.cl⟩, ⟨rfl, ⟨hb0.os, hb0.tape, hb0.output, by omega, fun b _ hn => ho b (fun e => hn (by rw [e]; exact foot_sv hsv))⟩, fun b hb => .inl hb, fun _ _ h => .inl h⟩, q2⟩
  · show (w.setCells gs (k * 64) (u8s s)).ownsRow 0 _ 64 m.sv (d.sec.set k s).length ((d.sec.set k s).flatMap u8s)
    rw [hv, List.length_set]
    exact q1
  · have hx : x ∈ d.sec.set k s := hx
    rcases List.mem_or_eq_of_mem_set hx with h1 | h1
    · exact h.ok.sec x h1
    · rw [h1]; exact hs
  · have h1 := h.ok.opn p hp
    exact ⟨h1.1, by show p.1 < ((d.sec.set k s).length : Int); rw [List.length_set]; exact h1.2.1, h1.2.2⟩
  · show (d.sec.set k s).length ≤ 4096
    rw [List.length_set]; exact h.ok.few

set_option maxRecDepth 100000 in
set_option maxHeartbeats 4000000 in
theorem disk_sync (w : World) (m : DiskM) (d : DiskD) (h : DK w m d) (hr : d.room + 1 ≤ 100000) :
    Calls Tryz.prog 64 #[.pointer (some ⟨m.g, 0, none⟩)] w fun e w' => e = .returned (syncE d) ∧ ∃ m', DK w' m' (syncS d) ∧ DT w m w' m' := by
  have hgl := h.blk.lt
  have H := Lib.hid h
  have hc3 : w.cell? ⟨m.g, 3, none⟩ = some (.bool d.down) := h.blk.cell 3
  have hst := h.ok.st
  clear h
  cases hd : d.down with
  | true =>
    rw [hd] at hc3
    have HF : Hid (syncE d = codeV 12 ∧ syncS d = d) := Lib.hid (by unfold syncE syncS; rw [hd]; exact ⟨rfl, rfl⟩)
    clear hd
    go_enter Tryz.func64, Tryz.ntmps64
    go_wp2_with fail
    go_ret
    exact ⟨by rw [HF.out.1]; rfl, m, by rw [HF.out.2]; exact H.out, DT.refl⟩
  | false =>
    rw [hd] at hc3
    have HSTP := Lib.hid (disk_step _ m d H.out (by omega))
    have HCL := Lib.hid (cutsS_len H.out.ok)
    have HSTEP : Hid (Calls Tryz.prog 89 #[.pointer (some ⟨m.g, 0, none⟩)] w fun e w' => ∃ A c, e = .returned (.tuple #[.int .i64 (outS d), .slice A (cutsS d).length c]) ∧ Sn w' 1 (.slice A (cutsS d).length c) (cutsS d).length (i64s (cutsS d)) ∧ DK w' (stepM m d) (stepped d) ∧ DT w m w' (stepM m d)) := Lib.hid (HSTP.out.mono (by
      rintro e w' ⟨v, rfl, h1, h2, h3, h4⟩
      obtain ⟨A, c, rfl, _⟩ := id h1
      exact ⟨A, c, rfl, h1, h3, h4⟩))
    clear HSTP
    rcases outS_cases d with ho | ho | ho
    · have HF : Hid (syncE d = codeV 12 ∧ syncS d = crashD (stepped d) (cutsS d)) := Lib.hid (by unfold syncE syncS; rw [hd, ho]; exact ⟨rfl, rfl⟩)
      rw [ho] at HSTEP
      clear hd ho
      obtain ⟨cl, hcl⟩ : ∃ cl, cl = cutsS d := ⟨_, rfl⟩
      rw [← hcl] at HSTEP HF HCL
      clear hcl
      go_enter Tryz.func64, Tryz.ntmps64
      go_wp2_with (first
        | (go_at_call 89; refine HSTEP.out.mono ?_; rintro e w1 ⟨A, c, rfl, h1, h3, h4⟩; have H1 := Lib.hid h1; have H3 := Lib.hid h3; have H4 := Lib.hid h4; clear h1 h3 h4)
        | (go_at_call 16; refine (disk_crash cl A c w1 (stepM m d) _ H3.out H1.out HCL.out).mono ?_; rintro e w3 ⟨rfl, m3, h9, h10⟩; have H9 := Lib.hid h9; have H10 := Lib.hid h10; clear h9 h10))
      go_ret
      exact ⟨by rw [HF.out.1]; rfl, m3, by rw [HF.out.2]; exact H9.out, H4.out.trans H10.out⟩
    · have HF : Hid (syncE d = codeV 11 ∧ syncS d = stepped d) := Lib.hid (by unfold syncE syncS; rw [hd, ho]; exact ⟨rfl, rfl⟩)
      rw [ho] at HSTEP
      clear hd ho
      go_enter Tryz.func64, Tryz.ntmps64
      go_wp2_with (go_at_call 89; refine HSTEP.out.mono ?_; rintro e w1 ⟨A, c, rfl, h1, h3, h4⟩; have H3 := Lib.hid h3; have H4 := Lib.hid h4; clear h1 h3 h4)
      go_ret
      exact ⟨by rw [HF.out.1]; rfl, _, by rw [HF.out.2]; exact H3.out, H4.out⟩
    · have HF : Hid (syncE d = .nilIface ∧ syncS d = syncD (stepped d)) := Lib.hid (by unfold syncE syncS; rw [hd, ho]; exact ⟨rfl, rfl⟩)
      rw [ho] at HSTEP
      clear hd ho
      go_enter Tryz.func64, Tryz.ntmps64
      go_upto_region 10 with (go_at_call 89; refine HSTEP.out.mono ?_; rintro e w1 ⟨A, c, rfl, h1, h3, h4⟩; have H3 := Lib.hid h3; have H4 := Lib.hid h4; clear h1 h3 h4)
      obtain ⟨d1, hd1⟩ : ∃ d1, d1 = stepped d := ⟨_, rfl⟩
      obtain ⟨m1, hm1⟩ : ∃ m1, m1 = stepM m d := ⟨_, rfl⟩
      rw [← hd1] at H3 HF
      rw [← hm1] at H3 H4
      have hmg : m1.g = m.g := by rw [hm1]; rfl
      have HMG := Lib.hid hmg
      obtain ⟨Ao, co, hov, _⟩ := Sn.own H3.out.opn
      obtain ⟨As, cs, hsv, _⟩ := Sn.own H3.out.sec
      have HOV := Lib.hid hov
      have HSV := Lib.hid hsv
      have hc1 : w1.cell? ⟨m.g, 1, none⟩ = some (.slice Ao d1.opn.length co) := by rw [← hov, ← hmg]; exact H3.out.blk.cell 1
      have hol : d1.opn.length ≤ 100000 := Nat.le_trans H3.out.ok.lo H3.out.ok.rm
      have hsl : d1.sec.length ≤ 4096 := H3.out.ok.few
      have HD1 : Hid (DK w1 m1 (secD d1 (syncN d1.sec d1.opn 0))) := Lib.hid H3.out
      have HOP := Lib.hid H3.out.ok.opn
      clear hd1 hm1 hmg hov hsv hc3
      go_wp2_with fail
      clear hc1
      go_loopw [36] (fun i wr => ∃ j : Nat, j ≤ d1.opn.length ∧ i = .int .i64 (j : Int) ∧ Hid (DK wr m1 (secD d1 (syncN d1.sec d1.opn j))) ∧ Hid (DT w m wr m1)) (fun i _ => d1.opn.length - (intOf i).toNat)
      case atStart => exact ⟨0, Nat.zero_le _, rfl, HD1, H4⟩
      case round =>
        obtain ⟨j, hj, rfl, HR, HT⟩ := hrel
        rcases Nat.lt_or_ge j d1.opn.length with hlt | hge
        · have hon := Sn.own HR.out.opn
          have hon : Sn wr 65 m1.ov d1.opn.length (d1.opn.flatMap wrC) := hon
          rw [HOV.out] at hon
          obtain ⟨b1, o1, rfl, hr1⟩ := at_wr hon (fun p hp => (HOP.out p hp).2.2) j hlt
          have hp := HOP.out _ (List.getElem_mem hlt)
          have htl := syncN_len d1.sec d1.opn j
          have HTJ : Hid (syncN d1.sec d1.opn (j + 1) = (syncN d1.sec d1.opn j).set d1.opn[j].1.toNat d1.opn[j].2) := Lib.hid (by
            show (syncN d1.sec d1.opn j).set (d1.opn.getD j (0, [])).1.toNat _ = _
            rw [show d1.opn.getD j (0, []) = d1.opn[j] by simp [List.getD_eq_getElem?_getD, hlt]])
          obtain ⟨L, hL⟩ : ∃ L, L = syncN d1.sec d1.opn j := ⟨_, rfl⟩
          obtain ⟨⟨a, dat⟩, hpe⟩ : ∃ p, p = d1.opn[j] := ⟨_, rfl⟩
          rw [← hpe] at hr1 hp HTJ
          rw [← hL] at HTJ htl HR
          clear hpe hL hon
          obtain ⟨k, rfl⟩ := Int.eq_ofNat_of_zero_le hp.1
          have hkl : k < L.length := by have := hp.2.1; simp only at this; omega
          have hka : (k : Int) < (d1.sec.length : Int) := hp.2.1
          obtain ⟨gs, hgs⟩ : ∃ gs, As = some ⟨gs, 0, none⟩ := by
            rcases H3.out.sec.2 with ⟨_, h⟩ | ⟨g, cp, cur, hv, _⟩
            · omega
            · rw [HSV.out] at hv; injection hv with e1 _ _; exact ⟨g, e1⟩
          subst hgs
          have HDS : Hid (Sec dat) := Lib.hid hp.2.2
          have HTJ : Hid (syncN d1.sec d1.opn (j + 1) = L.set k dat) := HTJ
          clear hp
          have HRW := Lib.hid hr1
          clear hr1
          have hWL := wrC_length (p := ((k : Int), dat)) HDS.out
          have HUW : Hid ((Tryz.prog.info? 155).map (·.size) = some (wrC ((k : Int), dat)).length) := Lib.hid (by rw [hWL]; kernel_rfl)
          have HUV : Hid ((Tryz.prog.info? 155).map (·.size) = some (wrC ((k : Int), dat)).toArray.size ∧ (wrC (0, List.replicate 64 0)).toArray.size = (wrC ((k : Int), dat)).toArray.size ∧ (wrC ((k : Int), dat)).toArray.all (·.oneCell') = true) := Lib.hid ⟨by rw [List.size_toArray, hWL]; kernel_rfl, by rw [List.size_toArray, List.size_toArray, hWL]; rfl, all_oneCell_toArray (wrC_one _)⟩
          clear hWL
          have HUD : Hid ((Tryz.prog.info? 144).map (·.size) = some (u8s dat).length) := Lib.hid (by rw [sec_length HDS.out]; kernel_rfl)
          have hj0 : (0 : Int) ≤ j := by omega
          have hj1 : (j : Int) < d1.opn.length := by omega
          have hk0 : (0 : Int) ≤ k := by omega
          go_upto_region 13 with (first
            | (refine ld 155 _ rfl rfl rfl HRW.out Tryz.underlying155 rfl HUW.out ?_)
            | (refine al 155 _ rfl rfl zeroWr ?_)
            | (refine stNew 155 (.tmp 6) (.tmp 39) rfl rfl (by rfl) (by rfl) HUV.out.1 HUV.out.2.1 HUV.out.2.2 ?_; intro w2 hK hb2 hz2; have HK2 := Lib.hid (show Blk w2 wr.heap.size 155 (wrC ((k : Int), dat)).toArray from hK); have HB2 := Lib.hid hb2; clear hK hb2 hz2))
          have HBR : Hid (w2.rangeAt wr.heap.size 0 (wrC ((k : Int), dat))) := Lib.hid (by have h := HK2.out.range; rw [List.toList_toArray] at h; exact h)
          have HDK2 : Hid (DK w2.drew m1 (secD d1 L)) := Lib.hid (HR.out.keep HB2.out).drew
          have HC0 : Hid (w2.drew.cell? ⟨m.g, 0, none⟩ = some (.slice (some ⟨gs, 0, none⟩) d1.sec.length cs)) := Lib.hid (by rw [← HSV.out, ← HMG.out]; exact HDK2.out.blk.cell 0)
          have HSV2 : Hid (m1.sv = .slice (some ⟨gs, 0, none⟩) (secD d1 L).sec.length cs) := Lib.hid (by rw [HSV.out]; show _ = Value.slice _ L.length cs; rw [htl])
          obtain ⟨hdk3, hdt3, hth⟩ := HDK2.out.setSec HSV2.out k hkl dat HDS.out
          have HDK3 : Hid (DK (w2.drew.setCells gs (k * 64) (u8s dat)) m1 (secD d1 (syncN d1.sec d1.opn (j + 1)))) := Lib.hid (by rw [HTJ.out]; exact hdk3)
          have HDT3 : Hid (DT w m (w2.drew.setCells gs (k * 64) (u8s dat)) m1) := Lib.hid (HT.out.trans ((DT.of_below (HB2.out.drew)).trans hdt3))
          have HTH := Lib.hid hth
          have hne : gs ≠ wr.heap.size := fun e => by
            have h1 := HR.out.foot_lt gs (foot_sv (by rw [HSV.out]; rfl))
            omega
          have HS0 : Hid (SBG m.g gs d1.sec.length cs wr.heap.size ((k : Int), dat) w2.drew) := Lib.hid ⟨HBR.out, HC0.out⟩
          have HS1 : Hid (SBG m.g gs d1.sec.length cs wr.heap.size ((k : Int), dat) (w2.drew.setCells gs (k * 64) (u8s dat))) := Lib.hid ⟨fun i u hi => (World.cell?_of_block (a := ⟨wr.heap.size, 0 + i, none⟩) (setCells_other (fun e => hne e.symm) _ _ _)).trans (HBR.out i u hi), by rw [← HSV.out, ← HMG.out]; exact HDK3.out.blk.cell 0⟩
          have HIX : Hid (∀ w4, SBG m.g gs d1.sec.length cs wr.heap.size ((k : Int), dat) w4 → w4.cell? ⟨wr.heap.size, 0, none⟩ = some (.int .i64 (k : Int)) ∧ w4.rangeAt wr.heap.size 1 (u8s dat) ∧ w4.cell? ⟨m.g, 0, none⟩ = some (.slice (some ⟨gs, 0, none⟩) d1.sec.length cs)) := Lib.hid (fun w4 h => ⟨h.1 0 _ rfl, fun i u hi => by have := h.1 (i + 1) u hi; rw [show 1 + i = 0 + (i + 1) by omega]; exact this, h.2⟩)
          clear hdk3 hdt3 hth
          refine held_start 10 (SBG m.g gs d1.sec.length cs wr.heap.size ((k : Int), dat)) (by kernel_rfl) (by kernel_rfl) (HS0.out) (fun hHeld => ?_)
          refine hMove 0 (Operand.tmp 0) (some 40) (.pointer (some ⟨m.g, 0, none⟩)) (by kernel_rfl) (by kernel_rfl) (by kernel_rfl) (by kernel_rfl) (by kernel_rfl) (fun _ _ _ h => h) (by exact rfl) hHeld ?_
          simp only [Act.put, List.setIfInBounds_toArray, List.set_cons_zero, List.set_cons_succ]
          refine hTake 1 (Op.nilCheck (Operand.tmp 40)) (some 41) (.pointer (some ⟨m.g, 0, none⟩)) (by kernel_rfl) (by kernel_rfl) (by kernel_rfl) (by kernel_rfl) (by kernel_rfl) (fun _ _ _ h => h) (fun o ho wX hX => by unfold execOp; simp only [ho]; go_simp) hHeld ?_
          simp only [Act.put, List.setIfInBounds_toArray, List.set_cons_zero, List.set_cons_succ]
          refine hTake 2 (Op.fieldAddr 77 (Operand.tmp 41) 0) (some 42) (.pointer (some ⟨m.g, 0, none⟩)) (by kernel_rfl) (by kernel_rfl) (by kernel_rfl) (by kernel_rfl) (by kernel_rfl) (fun _ _ _ h => h) (fun o ho wX hX => by unfold execOp; simp only [ho]; go_simp) hHeld ?_
          simp only [Act.put, List.setIfInBounds_toArray, List.set_cons_zero, List.set_cons_succ]
          refine hTake 3 (Op.load 53 (Operand.tmp 42)) (some 43) (.slice (some ⟨gs, 0, none⟩) d1.sec.length cs) (by kernel_rfl) (by kernel_rfl) (by kernel_rfl) (by kernel_rfl) (by kernel_rfl) (fun _ _ _ h => h) (fun o ho wX hX => by have hcell := (HIX.out wX hX).2.2; unfold execOp; simp only [ho]; go_simp) hHeld ?_
          simp only [Act.put, List.setIfInBounds_toArray, List.set_cons_zero, List.set_cons_succ]
          refine hTake 4 (Op.fieldAddr 155 (Operand.tmp 6) 0) (some 44) (.pointer (some ⟨wr.heap.size, 0, none⟩)) (by kernel_rfl) (by kernel_rfl) (by kernel_rfl) (by kernel_rfl) (by kernel_rfl) (fun _ _ _ h => h) (fun o ho wX hX => by unfold execOp; simp only [ho]; go_simp) hHeld ?_
          simp only [Act.put, List.setIfInBounds_toArray, List.set_cons_zero, List.set_cons_succ]
          refine hTake 5 (Op.load 3 (Operand.tmp 44)) (some 45) (.int .i64 (k : Int)) (by kernel_rfl) (by kernel_rfl) (by kernel_rfl) (by kernel_rfl) (by kernel_rfl) (fun _ _ _ h => h) (fun o ho wX hX => by have hcell := (HIX.out wX hX).1; unfold execOp; simp only [ho]; go_simp) hHeld ?_
          simp only [Act.put, List.setIfInBounds_toArray, List.set_cons_zero, List.set_cons_succ]
          refine hTake 6 (Op.fieldAddr 155 (Operand.tmp 6) 1) (some 46) (.pointer (some ⟨wr.heap.size, 1, none⟩)) (by kernel_rfl) (by kernel_rfl) (by kernel_rfl) (by kernel_rfl) (by kernel_rfl) (fun _ _ _ h => h) (fun o ho wX hX => by unfold execOp; simp only [ho]; go_simp) hHeld ?_
          simp only [Act.put, List.setIfInBounds_toArray, List.set_cons_zero, List.set_cons_succ]
          refine hLoad 7 144 (Operand.tmp 46) (some 47) (cs := u8s dat) (by kernel_rfl) (by kernel_rfl) (by kernel_rfl) (by kernel_rfl) (by kernel_rfl) (fun _ _ _ h => h) (by exact rfl) (fun _ hX => (HIX.out _ hX).2.1) Tryz.underlying144 rfl HUD.out hHeld ?_
          simp only [Act.put, List.setIfInBounds_toArray, List.set_cons_zero, List.set_cons_succ]
          refine hTake 8 (Op.indexAddr 53 (Operand.tmp 43) (Operand.tmp 45)) (some 48) (.pointer (some ⟨gs, k * 64, none⟩)) (by kernel_rfl) (by kernel_rfl) (by kernel_rfl) (by kernel_rfl) (by kernel_rfl) (fun _ _ _ h => h) (fun o ho wX hX => by unfold execOp; simp only [ho]; go_simp) hHeld ?_
          simp only [Act.put, List.setIfInBounds_toArray, List.set_cons_zero, List.set_cons_succ]
          refine wpAnyH_ready (rs := [9]) (by kernel_rfl) (by simp) ?_
          refine rStoreS 9 144 (.tmp 48) (.tmp 47) none (cs := u8s dat) (by kernel_rfl) (by kernel_rfl) (by exact rfl) (by exact rfl) HTH.out HUD.out (u8s_mem _) HS1.out ?_ AllReadyH.nil
          simp only [Act.put, List.setIfInBounds_toArray, List.set_cons_zero, List.set_cons_succ]
          refine wpAnyH_done (by kernel_rfl) ?_ _
          clear hHeld
          go_wp2_with fail
          exact ⟨⟨j + 1, by omega, by go_num, HDK3, HDT3⟩, by simp [intOf]; omega⟩
        · obtain rfl : j = d1.opn.length := by omega
          have t1 : decide ((d1.opn.length : Int) < (d1.opn.length : Int)) = false := by simp
          have HCLR := Lib.hid (disk_clear wr m1 _ HR.out)
          rw [HMG.out] at HCLR
          go_wp2_with (go_at_call 41; refine HCLR.out.mono ?_; rintro e w6 ⟨rfl, hdk6, hdt6⟩; have HDK6 := Lib.hid hdk6; have HDT6 := Lib.hid hdt6; clear hdk6 hdt6)
          go_ret
          exact ⟨by rw [HF.out.1]; rfl, _, by rw [HF.out.2]; exact HDK6.out, HT.out.trans HDT6.out⟩
end Go.Proofs.YtombncedfleljaaGreat
namespace Go.Proofs.YtombncedfleljaaGreat
open Go.RowKit
attribute [local irreducible] wpQuiet wpAnyH
set_option linter.unusedSimpArgs false

def planC (d : DiskD) (n : Int) (cl : List Int) : DiskD := if n < 1 then d else { d with cr := fun k => if k = (d.steps : Int) + n then some cl else d.cr k, room := d.room + 1 }
def planF (d : DiskD) (n : Int) : DiskD := if n < 1 then d else { d with fl := fun k => if k = (d.steps : Int) + n then true else d.fl k, room := d.room + 1 }
theorem DK.planC {w w' : World} {m : DiskM} {d : DiskD} (h : DK w m d) {K : Int} {cs : List Int} {v : Value} (hb : ∀ k, k < w.heap.size → k ≠ m.bc → w'.heap[k]? = w.heap[k]?) (hsz : w.heap.size ≤ w'.heap.size) (hu : UM w' m.bc (d.room + 1) (uput m.cv K v)) (hv : Sn w' 1 v cs.length (i64s cs)) (hvb : ∀ b, v.ownBlock = some b → b ∉ foot m ∧ b < w'.heap.size) (hl : cs.length ≤ 1000000) (hr : d.room + 1 ≤ 100000) :
    DK w' { m with cv := uput m.cv K v } { d with cr := fun k => if k = K then some cs else d.cr k, room := d.room + 1 } := by
  have hn := foot_nd h.nd
  refine ⟨(hb m.g h.blk.lt hn.2.2.1).trans h.blk, own_blk h.sec fun b hx => hb b (h.sec.lt b hx).2 (hn.2.2.2.2.2.2.1 b hx).2.2.2, own_blk h.opn fun b hx => hb b (h.opn.lt b hx).2 (hn.2.2.2.2.2.2.2.1 b hx).2.2.2, (h.last.of_block (hb _ h.last.lt hn.2.2.2.2.1)).mono (Nat.le_succ _), (h.fl.of_block (hb _ h.fl.lt hn.2.2.2.2.2.1)).mono (Nat.le_succ _), hu, h.nd, h.flv, fun k hk => ?_, ⟨h.ok.sec, h.ok.opn, h.ok.few, Nat.le_succ_of_le h.ok.lo, Nat.le_succ_of_le h.ok.st, hr, fun k c e => ?_⟩⟩
  · show match (if k = K then some cs else d.cr k) with | none => uput m.cv K v k = none | some cs' => ∃ u, uput m.cv K v k = some u ∧ Sn w' 1 u cs'.length (i64s cs') ∧ ∀ b, u.ownBlock = some b → b ∉ foot m ∧ b < w'.heap.size
    unfold uput
    by_cases e : k = K
    · rw [if_pos e, if_pos e]
      exact ⟨v, rfl, hv, hvb⟩
    · rw [if_neg e, if_neg e]
      have h3 := h.crv k hk
      cases hc : d.cr k with
      | none => rw [hc] at h3; exact h3
      | some c =>
        rw [hc] at h3
        obtain ⟨u, h4, h5, h6⟩ := h3
        refine ⟨u, h4, ?_, fun b e => ⟨(h6 b e).1, Nat.lt_of_lt_of_le (h6 b e).2 hsz⟩⟩
        obtain ⟨A, cap, rfl, hc1, hl, hx⟩ := h5
        refine ⟨A, cap, rfl, hc1, hl, fun hp => ?_⟩
        obtain ⟨b, off, rfl, hcell⟩ := hx hp
        exact ⟨b, off, rfl, fun j u hj => (World.cell?_of_block (a := ⟨b, off + j, none⟩) (hb b (h6 b rfl).2 (fun e => (h6 b rfl).1 (by rw [e]; exact foot_bc m)))).trans (hcell j u hj)⟩
  · have e : (if k = K then some cs else d.cr k) = some c := e
    split at e
    · have := Option.some.inj e; rw [← this]; exact hl
    · exact h.ok.cl k c e
theorem DK.planF {w w' : World} {m : DiskM} {d : DiskD} (h : DK w m d) {K : Int} (hb : ∀ k, k < w.heap.size → k ≠ m.bf → w'.heap[k]? = w.heap[k]?) (hsz : w.heap.size ≤ w'.heap.size) (hu : UM w' m.bf (d.room + 1) (uput m.fv K (.bool true))) (hr : d.room + 1 ≤ 100000) :
    DK w' { m with fv := uput m.fv K (.bool true) } { d with fl := fun k => if k = K then true else d.fl k, room := d.room + 1 } := by
  have hn := foot_nd h.nd
  refine h.re rfl [m.bf] (fun k hk => by rw [List.mem_singleton] at hk; rw [hk]; exact foot_bf m) (fun k hk hm => hb k hk (by simpa using hm)) hsz ((hb m.g h.blk.lt hn.2.1).trans h.blk) (own_blk h.sec fun b hx => hb b (h.sec.lt b hx).2 (hn.2.2.2.2.2.2.1 b hx).2.2.1) (own_blk h.opn fun b hx => hb b (h.opn.lt b hx).2 (hn.2.2.2.2.2.2.2.1 b hx).2.2.1) ((h.last.of_block (hb _ h.last.lt hn.2.2.2.1)).mono (Nat.le_succ _)) hu ((h.cr.of_block (hb _ h.cr.lt (fun e => hn.2.2.2.2.2.1 e.symm))).mono (Nat.le_succ _)) h.nd (fun b hb => .inl hb) (fun k hk => ?_) (fun k hk => .inr ⟨rfl, rfl⟩) ⟨h.ok.sec, h.ok.opn, h.ok.few, Nat.le_succ_of_le h.ok.lo, Nat.le_succ_of_le h.ok.st, hr, h.ok.cl⟩
  show (uput m.fv K (.bool true) k).getD (.bool false) = .bool (if k = K then true else d.fl k)
  unfold uput
  by_cases e : k = K
  · rw [if_pos e, if_pos e]; rfl
  · rw [if_neg e, if_neg e]; exact h.flv k hk
theorem tIntD : SlT Tryz.prog 29 3 1 8 := SlT.mk' Tryz.underlying29 (z := .int .i64 0) (by kernel_rfl) rfl (by decide)
theorem i64s_one (l : List Int) : ∀ u ∈ i64s l, u.oneCell' = true := by
  intro u hu
  simp only [i64s, List.mem_map] at hu
  obtain ⟨_, _, rfl⟩ := hu
  rfl
set_option maxRecDepth 100000 in
set_option maxHeartbeats 1000000 in
theorem clone_ints (va : Value) (n : Nat) (xs : List Value) (w : World) (hs : Sn w 1 va n xs) (h1 : ∀ u ∈ xs, u.oneCell' = true) (hn : n ≤ 1000000) :
    Calls Tryz.prog 39 #[va] w fun e w' => ∃ v, e = .returned v ∧ Sn w' 1 v n xs ∧ (∀ b, v.ownBlock = some b → w.heap.size ≤ b ∧ b < w'.heap.size) ∧ Below w.heap.size w w' := by
  obtain ⟨A, cap, rfl, hcap, hl, hx⟩ := id hs
  have HS := Lib.hid hs
  have HX := Lib.hid hx
  clear hx
  cases A with
  | none =>
    have heq : ∀ w : World, (binOp .eql 29 (.slice none n cap) (.slice none 0 0)).run Tryz.prog w = .ok (.bool true) w := fun _ => rfl
    go_enter Tryz.func39, Tryz.ntmps39
    go_wp2_with fail
    go_ret
    have hn0 : n = 0 := by
      rcases Nat.eq_zero_or_pos n with h | h
      · exact h
      · obtain ⟨b, off, e, _⟩ := HX.out h
        cases e
    subst hn0
    exact ⟨_, rfl, ⟨none, 0, rfl, Nat.le_refl _, hl, fun h => absurd h (by omega)⟩, (fun b e => by cases e), Below.refl _ _⟩
  | some a =>
    have heq : ∀ w : World, (binOp .eql 29 (.slice (some a) n cap) (.slice none 0 0)).run Tryz.prog w = .ok (.bool false) w := fun _ => rfl
    have hown : (w.alloc (.cells #[] 3)).ownsRow w.heap.size 3 1 (.slice (some ⟨w.heap.size, 0, none⟩) 0 0) 0 [] := own_new w #[] 3 1 0 w.heap.size w.heap.size (Nat.le_refl _) rfl (by unfold maxLen; omega) rfl
    go_enter Tryz.func39, Tryz.ntmps39
    clear hs
    go_wp2_with (at_builtin; refine app tIntD (.tmp 5) (.tmp 6) rfl rfl rfl hown rfl (HS.out.alloc _) h1 (by unfold maxLen; omega) (by omega) (by simp) ?_; intro v' w3 hown3 hgrow _)
    go_ret
    have hb : Below w.heap.size w w3 := ((Below.refl _ w).alloc (Nat.le_refl _) _).grown hgrow (by simp) (fun g hg => by have := (hown.lt g hg).1; omega)
    have hlt := hown3.lt
    have := Sn.own hown3
    rw [Nat.zero_add, List.nil_append] at this
    exact ⟨_, rfl, this, fun b e => hlt b e, hb⟩

set_option maxRecDepth 100000 in
set_option maxHeartbeats 4000000 in
theorem disk_fail (n : Int) (w : World) (m : DiskM) (d : DiskD) (h : DK w m d) (hn1 : n ≤ 1000000000) (hr : d.room + 1 ≤ 100000) :
    Calls Tryz.prog 14 #[.pointer (some ⟨m.g, 0, none⟩), .int .i64 n] w fun e w' => e = .returned (.tuple #[]) ∧ ∃ m', DK w' m' (planF d n) ∧ DT w m w' m' := by
  have H := Lib.hid h
  have hst : d.steps ≤ 100000 := Nat.le_trans h.ok.st h.ok.rm
  clear h
  rcases Bool.eq_false_or_eq_true (decide (1 ≤ n)) with t1 | t1
  · have h1 : 1 ≤ n := of_decide_eq_true t1
    have HF : Hid (planF d n = { d with fl := fun k => if k = (d.steps : Int) + n then true else d.fl k, room := d.room + 1 }) := Lib.hid (by unfold planF; rw [if_neg (by omega)])
    have hk : isI64 ((d.steps : Int) + n) := by unfold isI64; omega
    obtain ⟨w3, HRUN, HUL3, HT3⟩ : ∃ w3, Hid ((Instr.mapUpdate 73 (.map (some m.bf)) (.int .i64 ((d.steps : Int) + n)) (.bool true)).run Tryz.prog w.drew = .ok () w3) ∧ Hid (UM w3 m.bf (d.room + 1) (uput m.fv ((d.steps : Int) + n) (.bool true))) ∧ Hid (w.drew.grownBy w3 (some m.bf)) := by
      obtain ⟨w3, h1, h2, h3⟩ := UM.put_run (w := w.drew) Tryz.underlying73 H.out.fl hk (.bool true) (by unfold maxLen; omega)
      exact ⟨w3, Lib.hid h1, Lib.hid h2, Lib.hid h3.grown⟩
    have HB3 : Hid (∀ k, k < w.heap.size → k ≠ m.bf → w3.heap[k]? = w.heap[k]?) := Lib.hid (fun k hk hn => HT3.out.block k hk (fun e => hn (Option.some.inj e)))
    have HDK : Hid (DK w3 { m with fv := uput m.fv ((d.steps : Int) + n) (.bool true) } (planF d n)) := Lib.hid (by rw [HF.out]; exact H.out.planF HB3.out HT3.out.size HUL3.out hr)
    have HDT : Hid (DT w m w3 { m with fv := uput m.fv ((d.steps : Int) + n) (.bool true) }) := Lib.hid ⟨rfl, ⟨HT3.out.os, HT3.out.tape, HT3.out.output, HT3.out.size, fun k hk hm => HB3.out k hk (fun e => hm (by rw [e]; exact foot_bf m))⟩, fun b hb => .inl hb, fun _ _ h => .inl h⟩
    have HS0 : Hid (w.drew.cell? ⟨m.g, 5, none⟩ = some (.map (some m.bf)) ∧ w.drew.cell? ⟨m.g, 4, none⟩ = some (.int .i64 (d.steps : Int))) := Lib.hid ⟨H.out.blk.cell 5, H.out.blk.cell 4⟩
    have HS3 : Hid (w3.cell? ⟨m.g, 5, none⟩ = some (.map (some m.bf)) ∧ w3.cell? ⟨m.g, 4, none⟩ = some (.int .i64 (d.steps : Int))) := Lib.hid (by
      have hB : Blk w3 m.g 77 (diskC m d) := (HB3.out m.g H.out.blk.lt (foot_nd H.out.nd).2.1).trans H.out.blk
      exact ⟨hB.cell 5, hB.cell 4⟩)
    have y1 : IntKind.i64.wrap ((d.steps : Int) + n) = (d.steps : Int) + n := IntWalk.i64_in _ (by omega)
    clear hk
    go_enter Tryz.func14, Tryz.ntmps14
    go_wp2_with fail
    refine held_start 11 (fun wz => wz.cell? ⟨m.g, 5, none⟩ = some (.map (some m.bf)) ∧ wz.cell? ⟨m.g, 4, none⟩ = some (.int .i64 (d.steps : Int))) (by kernel_rfl) (by kernel_rfl) (HS0.out) (fun hHeld => ?_)
    refine hMove 0 (Operand.tmp 0) (some 10) (.pointer (some ⟨m.g, 0, none⟩)) (by kernel_rfl) (by kernel_rfl) (by kernel_rfl) (by kernel_rfl) (by kernel_rfl) (fun _ _ _ h => h) (by exact rfl) hHeld ?_
    simp only [Act.put, List.setIfInBounds_toArray, List.set_cons_zero, List.set_cons_succ]
    refine hTake 1 (Op.nilCheck (Operand.tmp 10)) (some 11) (.pointer (some ⟨m.g, 0, none⟩)) (by kernel_rfl) (by kernel_rfl) (by kernel_rfl) (by kernel_rfl) (by kernel_rfl) (fun _ _ _ h => h) (fun o ho wX hX => by unfold execOp; simp only [ho]; go_simp) hHeld ?_
    simp only [Act.put, List.setIfInBounds_toArray, List.set_cons_zero, List.set_cons_succ]
    refine hTake 2 (Op.fieldAddr 77 (Operand.tmp 11) 5) (some 12) (.pointer (some ⟨m.g, 5, none⟩)) (by kernel_rfl) (by kernel_rfl) (by kernel_rfl) (by kernel_rfl) (by kernel_rfl) (fun _ _ _ h => h) (fun o ho wX hX => by unfold execOp; simp only [ho]; go_simp) hHeld ?_
    simp only [Act.put, List.setIfInBounds_toArray, List.set_cons_zero, List.set_cons_succ]
    refine hTake 3 (Op.load 73 (Operand.tmp 12)) (some 13) (.map (some m.bf)) (by kernel_rfl) (by kernel_rfl) (by kernel_rfl) (by kernel_rfl) (by kernel_rfl) (fun _ _ _ h => h) (fun o ho wX hX => by have hcell := hX.1; unfold execOp; simp only [ho]; go_simp) hHeld ?_
    simp only [Act.put, List.setIfInBounds_toArray, List.set_cons_zero, List.set_cons_succ]
    refine hMove 4 (Operand.tmp 0) (some 14) (.pointer (some ⟨m.g, 0, none⟩)) (by kernel_rfl) (by kernel_rfl) (by kernel_rfl) (by kernel_rfl) (by kernel_rfl) (fun _ _ _ h => h) (by exact rfl) hHeld ?_
    simp only [Act.put, List.setIfInBounds_toArray, List.set_cons_zero, List.set_cons_succ]
    refine hTake 5 (Op.nilCheck (Operand.tmp 14)) (some 15) (.pointer (some ⟨m.g, 0, none⟩)) (by kernel_rfl) (by kernel_rfl) (by kernel_rfl) (by kernel_rfl) (by kernel_rfl) (fun _ _ _ h => h) (fun o ho wX hX => by unfold execOp; simp only [ho]; go_simp) hHeld ?_
    simp only [Act.put, List.setIfInBounds_toArray, List.set_cons_zero, List.set_cons_succ]
    refine hTake 6 (Op.fieldAddr 77 (Operand.tmp 15) 4) (some 16) (.pointer (some ⟨m.g, 4, none⟩)) (by kernel_rfl) (by kernel_rfl) (by kernel_rfl) (by kernel_rfl) (by kernel_rfl) (fun _ _ _ h => h) (fun o ho wX hX => by unfold execOp; simp only [ho]; go_simp) hHeld ?_
    simp only [Act.put, List.setIfInBounds_toArray, List.set_cons_zero, List.set_cons_succ]
    refine hTake 7 (Op.load 3 (Operand.tmp 16)) (some 17) (.int .i64 (d.steps : Int)) (by kernel_rfl) (by kernel_rfl) (by kernel_rfl) (by kernel_rfl) (by kernel_rfl) (fun _ _ _ h => h) (fun o ho wX hX => by have hcell := hX.2; unfold execOp; simp only [ho]; go_simp) hHeld ?_
    simp only [Act.put, List.setIfInBounds_toArray, List.set_cons_zero, List.set_cons_succ]
    refine hMove 8 (Operand.tmp 1) (some 18) (.int .i64 n) (by kernel_rfl) (by kernel_rfl) (by kernel_rfl) (by kernel_rfl) (by kernel_rfl) (fun _ _ _ h => h) (by exact rfl) hHeld ?_
    simp only [Act.put, List.setIfInBounds_toArray, List.set_cons_zero, List.set_cons_succ]
    refine hTake 9 (Op.binOp BinOp.add 3 (Operand.tmp 17) (Operand.tmp 18) 3) (some 19) (.int .i64 ((d.steps : Int) + n)) (by kernel_rfl) (by kernel_rfl) (by kernel_rfl) (by kernel_rfl) (by kernel_rfl) (fun _ _ _ h => h) (fun o ho wX hX => by unfold execOp; simp only [ho]; go_simp) hHeld ?_
    simp only [Act.put, List.setIfInBounds_toArray, List.set_cons_zero, List.set_cons_succ]
    refine wpAnyH_ready (rs := [10]) (by kernel_rfl) (by simp) ?_
    refine rUpd 10 (.tmp 13) (.tmp 19) (.const (.bool true)) none w3 (by kernel_rfl) (by kernel_rfl) (by rfl) (by rfl) (by rfl) HRUN.out HS3.out ?_ AllReadyH.nil
    simp only [Act.put, List.setIfInBounds_toArray, List.set_cons_zero, List.set_cons_succ]
    refine wpAnyH_done (by kernel_rfl) ?_ _
    clear hHeld
    go_wp2_with fail
    exact bodyPost_end (results_none rfl _ _ _) rfl ⟨rfl, _, HDK.out, HDT.out⟩
  · have HF : Hid (planF d n = d) := Lib.hid (by unfold planF; rw [if_pos]; have := of_decide_eq_false t1; omega)
    go_enter Tryz.func14, Tryz.ntmps14
    go_wp2_with fail
    exact bodyPost_end (results_none rfl _ _ _) rfl ⟨rfl, m, by rw [HF.out]; exact H.out, DT.refl⟩

set_option maxRecDepth 100000 in
set_option maxHeartbeats 4000000 in
theorem disk_crashAt (n : Int) (va : Value) (cl : List Int) (w : World) (m : DiskM) (d : DiskD) (h : DK w m d) (hs : Sn w 1 va cl.length (i64s cl)) (hcl : cl.length ≤ 1000000) (hn1 : n ≤ 1000000000) (hr : d.room + 1 ≤ 100000) :
    Calls Tryz.prog 15 #[.pointer (some ⟨m.g, 0, none⟩), .int .i64 n, va] w fun e w' => e = .returned (.tuple #[]) ∧ ∃ m', DK w' m' (planC d n cl) ∧ DT w m w' m' := by
  have H := Lib.hid h
  have hst : d.steps ≤ 100000 := Nat.le_trans h.ok.st h.ok.rm
  have HCN := Lib.hid (clone_ints va cl.length _ w.drew hs (i64s_one cl) hcl)
  clear h hs
  rcases Bool.eq_false_or_eq_true (decide (1 ≤ n)) with t1 | t1
  · have h1 : 1 ≤ n := of_decide_eq_true t1
    have HF : Hid (planC d n cl = { d with cr := fun k => if k = (d.steps : Int) + n then some cl else d.cr k, room := d.room + 1 }) := Lib.hid (by unfold planC; rw [if_neg (by omega)])
    have hk : isI64 ((d.steps : Int) + n) := by unfold isI64; omega
    have HPUT : Hid (∀ (v : Value) (w2 : World), Sn w2 1 v cl.length (i64s cl) → (∀ b, v.ownBlock = some b → w.heap.size ≤ b ∧ b < w2.heap.size) → Below w.heap.size w w2 → ∃ w3, (Instr.mapUpdate 74 (.map (some m.bc)) (.int .i64 ((d.steps : Int) + n)) v).run Tryz.prog w2 = .ok () w3 ∧ DK w3 { m with cv := uput m.cv ((d.steps : Int) + n) v } (planC d n cl) ∧ DT w m w3 { m with cv := uput m.cv ((d.steps : Int) + n) v } ∧ w3.cell? ⟨m.g, 6, none⟩ = some (.map (some m.bc)) ∧ w3.cell? ⟨m.g, 4, none⟩ = some (.int .i64 (d.steps : Int))) := Lib.hid (fun v w2 hs hvb hb => by
      have H2 := H.out.keep hb
      obtain ⟨w3, e1, e2, e3⟩ := UM.put_run Tryz.underlying74 H2.cr hk v (by unfold maxLen; omega)
      have hg := e3.grown
      have hB3 : ∀ k, k < w2.heap.size → k ≠ m.bc → w3.heap[k]? = w2.heap[k]? := fun k hk hn => hg.block k hk (fun e => hn (Option.some.inj e))
      have hnf : ∀ b, v.ownBlock = some b → b ∉ foot m := fun b e hm => by have h1 := H.out.foot_lt b hm; have h2 := hvb b e; omega
      have hdk := H2.planC hB3 hg.size e2 (cs := cl) (by
        obtain ⟨A, cap, rfl, hc1, hl, hx⟩ := hs
        refine ⟨A, cap, rfl, hc1, hl, fun hp => ?_⟩
        obtain ⟨b, off, rfl, hcell⟩ := hx hp
        exact ⟨b, off, rfl, fun j u hj => (World.cell?_of_block (a := ⟨b, off + j, none⟩) (hB3 b (hvb b rfl).2 (fun e => hnf b rfl (by rw [e]; exact foot_bc m)))).trans (hcell j u hj)⟩) (fun b e => ⟨hnf b e, Nat.lt_of_lt_of_le (hvb b e).2 hg.size⟩) hcl hr
      have hB : Blk w3 m.g 77 (diskC m d) := (hB3 m.g H2.blk.lt (foot_nd H.out.nd).2.2.1).trans H2.blk
      refine ⟨w3, e1, by rw [HF.out]; exact hdk, ⟨rfl, (Fo.of_below hb).trans (G := foot m) ⟨hg.os, hg.tape, hg.output, hg.size, fun k hk hm => hB3 k hk (fun e => hm (by rw [e]; exact foot_bc m))⟩ (fun x hx => .inl hx), fun b hb => .inl hb, fun k x hx => by
        have hx : (if k = (d.steps : Int) + n then some v else m.cv k) = some x := hx
        split at hx
        · injection hx with hx
          subst hx
          exact .inr (fun b e => (hvb b e).1)
        · exact .inl hx⟩, hB.cell 6, hB.cell 4⟩)
    have HS0 : Hid (w.drew.cell? ⟨m.g, 6, none⟩ = some (.map (some m.bc)) ∧ w.drew.cell? ⟨m.g, 4, none⟩ = some (.int .i64 (d.steps : Int))) := Lib.hid ⟨H.out.blk.cell 6, H.out.blk.cell 4⟩
    have y1 : IntKind.i64.wrap ((d.steps : Int) + n) = (d.steps : Int) + n := IntWalk.i64_in _ (by omega)
    clear hk
    go_enter Tryz.func15, Tryz.ntmps15
    go_wp2_with fail
    refine held_start 13 (fun wz => wz.cell? ⟨m.g, 6, none⟩ = some (.map (some m.bc)) ∧ wz.cell? ⟨m.g, 4, none⟩ = some (.int .i64 (d.steps : Int))) (by kernel_rfl) (by kernel_rfl) (HS0.out) (fun hHeld => ?_)
    refine hMove 0 (Operand.tmp 0) (some 12) (.pointer (some ⟨m.g, 0, none⟩)) (by kernel_rfl) (by kernel_rfl) (by kernel_rfl) (by kernel_rfl) (by kernel_rfl) (fun _ _ _ h => h) (by exact rfl) hHeld ?_
    simp only [Act.put, List.setIfInBounds_toArray, List.set_cons_zero, List.set_cons_succ]
    refine hTake 1 (Op.nilCheck (Operand.tmp 12)) (some 13) (.pointer (some ⟨m.g, 0, none⟩)) (by kernel_rfl) (by kernel_rfl) (by kernel_rfl) (by kernel_rfl) (by kernel_rfl) (fun _ _ _ h => h) (fun o ho wX hX => by unfold execOp; simp only [ho]; go_simp) hHeld ?_
    simp only [Act.put, List.setIfInBounds_toArray, List.set_cons_zero, List.set_cons_succ]
    refine hTake 2 (Op.fieldAddr 77 (Operand.tmp 13) 6) (some 14) (.pointer (some ⟨m.g, 6, none⟩)) (by kernel_rfl) (by kernel_rfl) (by kernel_rfl) (by kernel_rfl) (by kernel_rfl) (fun _ _ _ h => h) (fun o ho wX hX => by unfold execOp; simp only [ho]; go_simp) hHeld ?_
    simp only [Act.put, List.setIfInBounds_toArray, List.set_cons_zero, List.set_cons_succ]
    refine hTake 3 (Op.load 74 (Operand.tmp 14)) (some 15) (.map (some m.bc)) (by kernel_rfl) (by kernel_rfl) (by kernel_rfl) (by kernel_rfl) (by kernel_rfl) (fun _ _ _ h => h) (fun o ho wX hX => by have hcell := hX.1; unfold execOp; simp only [ho]; go_simp) hHeld ?_
    simp only [Act.put, List.setIfInBounds_toArray, List.set_cons_zero, List.set_cons_succ]
    refine hMove 4 (Operand.tmp 0) (some 16) (.pointer (some ⟨m.g, 0, none⟩)) (by kernel_rfl) (by kernel_rfl) (by kernel_rfl) (by kernel_rfl) (by kernel_rfl) (fun _ _ _ h => h) (by exact rfl) hHeld ?_
    simp only [Act.put, List.setIfInBounds_toArray, List.set_cons_zero, List.set_cons_succ]
    refine hTake 5 (Op.nilCheck (Operand.tmp 16)) (some 17) (.pointer (some ⟨m.g, 0, none⟩)) (by kernel_rfl) (by kernel_rfl) (by kernel_rfl) (by kernel_rfl) (by kernel_rfl) (fun _ _ _ h => h) (fun o ho wX hX => by unfold execOp; simp only [ho]; go_simp) hHeld ?_
    simp only [Act.put, List.setIfInBounds_toArray, List.set_cons_zero, List.set_cons_succ]
    refine hTake 6 (Op.fieldAddr 77 (Operand.tmp 17) 4) (some 18) (.pointer (some ⟨m.g, 4, none⟩)) (by kernel_rfl) (by kernel_rfl) (by kernel_rfl) (by kernel_rfl) (by kernel_rfl) (fun _ _ _ h => h) (fun o ho wX hX => by unfold execOp; simp only [ho]; go_simp) hHeld ?_
    simp only [Act.put, List.setIfInBounds_toArray, List.set_cons_zero, List.set_cons_succ]
    refine hTake 7 (Op.load 3 (Operand.tmp 18)) (some 19) (.int .i64 (d.steps : Int)) (by kernel_rfl) (by kernel_rfl) (by kernel_rfl) (by kernel_rfl) (by kernel_rfl) (fun _ _ _ h => h) (fun o ho wX hX => by have hcell := hX.2; unfold execOp; simp only [ho]; go_simp) hHeld ?_
    simp only [Act.put, List.setIfInBounds_toArray, List.set_cons_zero, List.set_cons_succ]
    refine hMove 8 (Operand.tmp 1) (some 20) (.int .i64 n) (by kernel_rfl) (by kernel_rfl) (by kernel_rfl) (by kernel_rfl) (by kernel_rfl) (fun _ _ _ h => h) (by exact rfl) hHeld ?_
    simp only [Act.put, List.setIfInBounds_toArray, List.set_cons_zero, List.set_cons_succ]
    refine hTake 9 (Op.binOp BinOp.add 3 (Operand.tmp 19) (Operand.tmp 20) 3) (some 21) (.int .i64 ((d.steps : Int) + n)) (by kernel_rfl) (by kernel_rfl) (by kernel_rfl) (by kernel_rfl) (by kernel_rfl) (fun _ _ _ h => h) (fun o ho wX hX => by unfold execOp; simp only [ho]; go_simp) hHeld ?_
    simp only [Act.put, List.setIfInBounds_toArray, List.set_cons_zero, List.set_cons_succ]
    refine hMove 10 (Operand.tmp 2) (some 22) (va) (by kernel_rfl) (by kernel_rfl) (by kernel_rfl) (by kernel_rfl) (by kernel_rfl) (fun _ _ _ h => h) (by exact rfl) hHeld ?_
    simp only [Act.put, List.setIfInBounds_toArray, List.set_cons_zero, List.set_cons_succ]
    refine wpAnyH_ready (rs := [11]) (by kernel_rfl) (by simp) ?_
    refine rCall 11 (Op.call { callee := Callee.value (Operand.func 39), args := #[Operand.tmp 22], argTypes := #[29] }) (some 23) 39 #[va] (by kernel_rfl) (by kernel_rfl) (fun o ho => by unfold execOp; simp only [ho]; go_simp) ?_ AllReadyH.nil
    refine HCN.out.mono ?_
    rintro e w2 ⟨v2, rfl, h2, h3, h4⟩
    have hb2 : Below w.heap.size w w2 := (Below.refl w.heap.size w).drew.trans h4
    obtain ⟨w3, hrun3, hdk3, hdt3, hs3⟩ := HPUT.out v2 w2 h2 h3 hb2
    refine ⟨_, rfl, ⟨Below.cell' hb2 HS0.out.1, Below.cell' hb2 HS0.out.2⟩, fun _ => ?_⟩
    simp only [Act.put, List.setIfInBounds_toArray, List.set_cons_zero, List.set_cons_succ]
    refine wpAnyH_ready (rs := [12]) (by kernel_rfl) (by simp) ?_
    refine rUpd 12 (.tmp 15) (.tmp 21) (.tmp 23) none w3 (by kernel_rfl) (by kernel_rfl) (by rfl) (by rfl) (by rfl) hrun3 hs3 ?_ AllReadyH.nil
    simp only [Act.put, List.setIfInBounds_toArray, List.set_cons_zero, List.set_cons_succ]
    refine wpAnyH_done (by kernel_rfl) ?_ _
    have HDK := Lib.hid hdk3
    have HDT := Lib.hid hdt3
    clear h2 h3 h4 hb2 hrun3 hdk3 hdt3 hs3
    clear hHeld
    go_wp2_with fail
    exact bodyPost_end (results_none rfl _ _ _) rfl ⟨rfl, _, HDK.out, HDT.out⟩
  · have HF : Hid (planC d n cl = d) := Lib.hid (by unfold planC; rw [if_pos]; have := of_decide_eq_false t1; omega)
    go_enter Tryz.func15, Tryz.ntmps15
    go_wp2_with fail
    exact bodyPost_end (results_none rfl _ _ _) rfl ⟨rfl, m, by rw [HF.out]; exact H.out, DT.refl⟩
end Go.Proofs.YtombncedfleljaaGreat
namespace Go.Proofs.YtombncedfleljaaGreat
open Go.RowKit

/-- An error: a code, or a fault with a code and a place. -/
def baseVal (c : Int) : Option Int → Value
  | none => .iface 37 (.int .i64 c)
  | some at_ => .iface 218 (.agg #[.int .i64 c, .int .i64 at_])
theorem ta_code_code (p : Value) (w : World) : (Instr.typeAssert (.iface 37 p) 42 37 true).run Tryz.prog w = .ok (.tuple #[p, .bool true]) w := by kernel_rfl
theorem ta_code_fault (p : Value) (w : World) : (Instr.typeAssert (.iface 218 p) 42 37 true).run Tryz.prog w = .ok (.tuple #[.int .i64 0, .bool false]) w := by kernel_rfl
theorem ta_fault_code (p : Value) (w : World) : (Instr.typeAssert (.iface 37 p) 42 218 true).run Tryz.prog w = .ok (.tuple #[.agg #[.int .i64 0, .int .i64 0], .bool false]) w := by kernel_rfl
theorem ta_fault_fault (p : Value) (w : World) : (Instr.typeAssert (.iface 218 p) 42 218 true).run Tryz.prog w = .ok (.tuple #[p, .bool true]) w := by kernel_rfl
theorem ta_unwrap_fault (p : Value) (w : World) : (Instr.typeAssert (.iface 218 p) 42 175 true).run Tryz.prog w = .ok (.tuple #[.iface 218 p, .bool true]) w := by kernel_rfl
theorem least_parts (n : String) (f : String → Bool) (g : String → String) : ∃ m, (Instr.least ([n].partition f).2 <|> Instr.least (([n].partition f).1.map g)) = some m := by
  cases hf : f n <;> simp [List.partition, List.partition.loop, hf, Instr.least]
theorem missing_one (want : Array (String × TypeId)) (got : Array Method) (n : String) (h : (want.toList.filter fun (name, sig) => !got.any fun m => m.name == name && m.sig == sig).map (·.1) = [n]) : ∃ m, Instr.missingMethod want got = some m := by
  unfold Instr.missingMethod
  simp only [h]
  exact least_parts n _ _
theorem run_typeAssert_missing {P : Program} (w : World) (t xt a : TypeId) (v z : Value) (want : Array (String × TypeId)) (i : TypeInfo) (n : String) (hu : P.underlying a = some (.interface want)) (hi : P.info? t = some i)
    (h : (want.toList.filter fun (name, sig) => !i.methods.any fun m => m.name == name && m.sig == sig).map (·.1) = [n]) (hz : (zeroValue a).run P w = .ok z w) :
    (Instr.typeAssert (.iface t v) xt a true).run P w = .ok (.tuple #[z, .bool false]) w := by
  obtain ⟨m, hm⟩ := missing_one want i.methods n h
  simp only [Instr.typeAssert]
  simp [run_underlying hu, typeInfo, hi, hm, hz]
theorem ta_unwrap_code (p : Value) (w : World) : (Instr.typeAssert (.iface 37 p) 42 175 true).run Tryz.prog w = .ok (.tuple #[.nilIface, .bool false]) w := by
  have h : (Tryz.prog.info? 37).map (fun i => ((#[("Unwrap", 122)] : Array (String × TypeId)).toList.filter fun (name, sig) => !i.methods.any fun m => m.name == name && m.sig == sig).map (·.1)) = some ["Unwrap"] := by kernel_rfl
  obtain ⟨i, hi, hn⟩ := Option.map_eq_some_iff.1 h
  exact run_typeAssert_missing w 37 42 175 p .nilIface #[("Unwrap", 122)] i "Unwrap" (by kernel_rfl) hi hn (by kernel_rfl)

set_option maxHeartbeats 400000 in
theorem code_visit_code (c : Int) (b : Nat) (w : World) (x : Value) (hx : w.cell? ⟨b, 0, none⟩ = some x) (hf : w.frozen? ⟨b, 0, none⟩ = false) :
    Calls Tryz.prog 79 #[.iface 37 (.int .i64 c), .pointer (some ⟨b, 0, none⟩)] w fun e w' => e = .returned (.bool true) ∧ w.setCell ⟨b, 0, none⟩ (.int .i64 c) = w' := by
  have h1 := ta_code_code
  go_enter Tryz.func79, Tryz.ntmps79
  go_wp2
  go_ret
  exact ⟨rfl, rfl⟩
set_option maxHeartbeats 400000 in
theorem code_visit_fault (p : Value) (b : Nat) (w : World) :
    Calls Tryz.prog 79 #[.iface 218 p, .pointer (some ⟨b, 0, none⟩)] w fun e w' => e = .returned (.bool false) ∧ w = w' := by
  have h1 := ta_code_fault
  go_enter Tryz.func79, Tryz.ntmps79
  go_wp2
  go_ret
  exact ⟨rfl, rfl⟩

theorem m_unwrap_fault (p : Value) (w : World) : (method 374 218 p "Unwrap").run Tryz.prog w = .ok (187, p) w := by kernel_rfl
set_option maxHeartbeats 400000 in
theorem unwrap_fault (c a : Int) (w : World) :
    Calls Tryz.prog 187 #[.agg #[.int .i64 c, .int .i64 a]] w fun e w' => e = .returned (.iface 37 (.int .i64 c)) ∧ Below w.heap.size w w' := by
  go_enter Tryz.func187, Tryz.ntmps187
  go_wp2
  go_ret
  exact ⟨rfl, (Below.refl _ _).alloc (Nat.le_refl _) _⟩

theorem search_idle (w : World) :
    CallsD Tryz.prog 100 #[] .returning w fun e u' w' => e = .returned (.tuple #[]) ∧ u' = .returning ∧ w = w' := by
  refine callsD_of_wpS Tryz.func100 rfl fun c₀ cs hu => ?_
  apply wpS_region
  cases c₀
  simp_all [wpOpsS, go_sem, recoverD, Tryz.ntmps100, bodyPostS, results, Tryz.results100]

set_option maxRecDepth 100000 in
set_option maxHeartbeats 400000 in
theorem search_code (W w : World) (c : Int) (o : Option Int) (hb : Below W.heap.size W w) (x : Value)
    (hx : w.cell? ⟨W.heap.size, 0, none⟩ = some x) (hf : w.frozen? ⟨W.heap.size, 0, none⟩ = false) :
    Calls Tryz.prog 78 #[baseVal c o, .func (.func 79) #[] #[.pointer (some ⟨W.heap.size, 0, none⟩)]] w fun e w' => e = .returned (.tuple #[]) ∧ Below W.heap.size W w' ∧ w'.cell? ⟨W.heap.size, 0, none⟩ = some (.int .i64 c) := by
  go_enter_defers Tryz.func78, Tryz.ntmps78
  go_wp2_with fail
  go_loopw [0, 6] (fun e i wr => ∃ (k : Nat) (u : Value), k ≤ 1 ∧ i = .int .i64 k ∧ Below W.heap.size W wr ∧ wr.cell? ⟨W.heap.size, 0, none⟩ = some u ∧ wr.frozen? ⟨W.heap.size, 0, none⟩ = false ∧ ((k = 0 ∧ e = baseVal c o) ∨ e = .iface 37 (.int .i64 c))) (fun _ i _ => 65536 - (intOf i).toNat)
  case atStart => exact ⟨0, x, by omega, rfl, hb, hx, hf, .inl ⟨rfl, rfl⟩⟩
  case round =>
    obtain ⟨k, u, hk, rfl, hbr, hxr, hfr, he⟩ := hrel
    have h2 := ta_unwrap_fault
    have h3 := ta_unwrap_code
    have h5 := m_unwrap_fault
    have hlt : decide ((k : Int) < 65536) = true := by simp; omega
    rcases (show (_ = Value.iface 37 (.int .i64 c)) ∨ (∃ a, k = 0 ∧ _ = Value.iface 218 (.agg #[.int .i64 c, .int .i64 a])) from by
      rcases he with ⟨h0, he⟩ | he
      · cases o with
        | none => exact .inl he
        | some a => exact .inr ⟨a, h0, he⟩
      · exact .inl he) with rfl | ⟨a, h0, rfl⟩
    · clear he
      go_wp2_with fail
      refine (code_visit_code c W.heap.size wr u hxr hfr).mono ?_
      rintro e w' ⟨rfl, rfl⟩
      go_wp2_with fail
      refine leaves_cons (f := 100) (args := #[]) (by simp) (by simp [go_sem]) ?_
      refine (search_idle _).mono ?_
      rintro e u' w'' ⟨rfl, rfl, rfl⟩
      refine ⟨_, results_none rfl _ _ _, rfl, hbr.setCell (Nat.le_refl _) _, ?_⟩
      simp [go_sem, hxr]
    · clear he
      have hk1 : k + 1 ≤ 1 := by omega
      clear h0
      go_wp2_with fail
      refine (code_visit_fault _ W.heap.size wr).mono ?_
      rintro e w' ⟨rfl, rfl⟩
      go_wp2_with fail
      refine (unwrap_fault c a wr).mono ?_
      rintro e w1 ⟨rfl, hb1⟩
      have hlt2 := cell_lt hxr
      go_wp2_with fail
      exact ⟨⟨k + 1, u, hk1, by go_num, hbr.trans (hb1.mono hbr.size), Below.cell' hb1 hxr, (hb1.frozen hlt2).trans hfr, .inr rfl⟩, by simp [intOf]; omega⟩
theorem make_fn (fn : Fn) (first cap : Array Value) (w : World) : (Instr.makeFunc fn first cap).run Tryz.prog w = .ok (.func fn first cap) w := rfl
set_option maxHeartbeats 400000 in
theorem code_base (w : World) (c : Int) (o : Option Int) :
    Calls Tryz.prog 54 #[baseVal c o] w fun e w' => e = .returned (.int .i64 c) ∧ Below w.heap.size w w' := by
  have hmf := make_fn
  have HS := fun (w1 : World) (hb : Below w.heap.size w w1) x hx hf => search_code w w1 c o hb x hx hf
  obtain ⟨v, hv⟩ : ∃ v, v = baseVal c o := ⟨_, rfl⟩
  rw [← hv] at HS ⊢
  clear hv
  go_enter Tryz.func54, Tryz.ntmps54
  go_wp2_with fail
  refine (HS (w.alloc (.cells #[.int .i64 0] 37)) ((Below.refl _ _).alloc (Nat.le_refl _) _) (.int .i64 0) (by simp [go_sem]) (by simp [go_sem])).mono ?_
  rintro e w' ⟨rfl, hb, hc⟩
  clear HS
  go_wp2
  go_ret
  exact ⟨rfl, hb⟩
set_option maxRecDepth 100000 in
set_option maxHeartbeats 400000 in
theorem search_nil (f : Value) (w : World) :
    Calls Tryz.prog 78 #[.nilIface, f] w fun e w' => e = .returned (.tuple #[]) ∧ w = w' := by
  go_enter_defers Tryz.func78, Tryz.ntmps78
  go_wp2_with fail
  go_loop [0, 6] (fun e i => e = .nilIface ∧ i = .int .i64 0) (fun _ _ => 0)
  case atStart => exact ⟨rfl, rfl⟩
  case round =>
    obtain ⟨rfl, rfl⟩ := hrel
    go_wp2_with fail
    refine leaves_cons (f := 100) (args := #[]) (by simp) (by simp [go_sem]) ?_
    refine (search_idle _).mono ?_
    rintro e u' w'' ⟨rfl, rfl, rfl⟩
    exact ⟨_, results_none rfl _ _ _, rfl, rfl⟩

set_option maxHeartbeats 400000 in
/-- fault.Code of nil: 0. -/
theorem code_nil (w : World) :
    Calls Tryz.prog 54 #[.nilIface] w fun e w' => e = .returned (.int .i64 0) ∧ Below w.heap.size w w' := by
  have hmf := make_fn
  go_enter Tryz.func54, Tryz.ntmps54
  go_wp2_with (go_at_call 78; refine (search_nil _ _).mono ?_; rintro e w' ⟨rfl, rfl⟩)
  go_ret
  exact ⟨rfl, (Below.refl _ _).alloc (Nat.le_refl _) _⟩

end Go.Proofs.YtombncedfleljaaGreat
