/- Parts: RcacheKeeps: what an insert, a compaction, an opening come to (plain). | times.Add of two numbers. | rcache: Open. | tollref01.Spread, tollref17.Number. | tolllaw21: the operations, Few, code; tollref17.Number of any number. | tollref18.Same (seat slot): it compares two lists of entries. | Plain: a new disk opened, an append to a disk without plans. -/
import Derived.Test.YtombncedfleljaaGreatMK29
import Derived.Test.YtombncedfleljaaGreatMK1
import Derived.Test.YtombncedfleljaaGreatMK2
import Derived.BigQuiet
import Derived.OneCell
import Derived.Test.YtombncedfleljaaGreatMK11
import Derived.Test.YtombncedfleljaaGreatMK18
import Derived.Laws.Shifts
import Derived.Test.YtombncedfleljaaGreatMK22
import Derived.Test.YtombncedfleljaaGreatMK28
import Derived.Test.YtombncedfleljaaGreatMK26
namespace Go.Proofs.YtombncedfleljaaGreat
open Go.RowKit
attribute [local irreducible] wpQuiet wpAnyH
set_option linter.unusedSimpArgs false
set_option linter.unusedVariables false

/-- The entries of a log are those of one of two lists, as far as they live. -/
def PC (A B : EL) (now : Int) : Nat → List Ent2 → Prop := fun _ es => liveL (refOf es) now = liveL A now ∨ liveL (refOf es) now = liveL B now
theorem PC.late {A B : EL} {now later : Int} (hl : now ≤ later) : ∀ g es, PC A B now g es → PC A B later g es := fun _ _ h => h.imp (fun h => le_mono h hl) (fun h => le_mono h hl)
/-- A cache whose log is not broken: its live entries are those of S. -/
structure CL (S : EL) (now : Int) (N K : Nat) (d : DiskD) (C : CacheD) : Prop where
  sa : ∃ es, SA (PC S S now) N K d C.L es
  wl : WL C.E
  le : liveL C.E now = liveL S now
theorem CL.late {S : EL} {now later : Int} {N K : Nat} {d : DiskD} {C : CacheD} (h : CL S now N K d C) (hl : now ≤ later) : CL S later N K d C := by
  obtain ⟨es, h1⟩ := h.sa
  exact ⟨⟨es, h1.imp (PC.late hl _ _) (Nat.le_refl _)⟩, h.wl, le_mono h.le hl⟩
theorem CL.more {S : EL} {now : Int} {N K K' : Nat} {d : DiskD} {C : CacheD} (h : CL S now N K d C) (hK : K ≤ K') : CL S now N K' d C := by
  obtain ⟨es, h1⟩ := h.sa
  exact ⟨⟨es, h1.imp (fun h => h) hK⟩, h.wl, h.le⟩
theorem CL.brk {S : EL} {now : Int} {N K : Nat} {d : DiskD} {C : CacheD} (h : CL S now N K d C) : C.L.brk = false := by
  obtain ⟨es, h1⟩ := h.sa
  exact h1.brk
theorem CL.sb {S : EL} {now : Int} {N K : Nat} {d : DiskD} {C : CacheD} (h : CL S now N K d C) : SB (PC S S now) N K d := by
  obtain ⟨es, h1⟩ := h.sa
  exact h1.sb
theorem CL.disk {S : EL} {now : Int} {N K : Nat} {d d' : DiskD} {C : CacheD} (h : CL S now N K d C) (hs : ∀ P L es, SA P N K d L es → SA P N K d' L es) : CL S now N K d' C := by
  obtain ⟨es, h1⟩ := h.sa
  exact ⟨⟨es, hs _ _ _ h1⟩, h.wl, h.le⟩
theorem cmp_plain {S : EL} {now : Int} {N K : Nat} {d : DiskD} {C : CacheD} (h : CL S now N K d C) (hk : DOk d) (hK : K + 1 < 256) :
    ((cmpR d (N / 2) C now).1 = none ∧ CL S now N (K + 1) (cmpR d (N / 2) C now).2.1 (cmpR d (N / 2) C now).2.2 ∧ (cmpR d (N / 2) C now).2.2.L.cnt = (liveL C.E now).length ∧ (cmpR d (N / 2) C now).2.2.E = liveL C.E now) ∨
    (∃ x, (cmpR d (N / 2) C now).1 = some x ∧ (cmpR d (N / 2) C now).2.2.L.brk = true ∧ SB (PC S S now) N (K + 1) (cmpR d (N / 2) C now).2.1) ∨
    (∃ x, (cmpR d (N / 2) C now).1 = some x ∧ CL S now N (K + 1) (cmpR d (N / 2) C now).2.1 (cmpR d (N / 2) C now).2.2) := by
  obtain ⟨es, hsa⟩ := h.sa
  have hwl := h.wl.live now
  have h1 := sa_rewrite (P' := PC S S now) hsa hk hK hwl.ok hsa.p (fun g _ => by
    unfold PC
    rw [of_self hwl, liveL_live _ (Int.le_refl _), h.le]
    exact .inl rfl)
  unfold cmpR
  rcases h1 with ⟨a1, a2, _⟩ | ⟨x, a1, a2, a3, a4⟩ | ⟨x, a1, a2, a3, a4, a5⟩
  · rw [a1]
    exact .inl ⟨rfl, ⟨⟨_, a2⟩, hwl, by rw [liveL_live _ (Int.le_refl _), h.le]⟩, a2.cnt, rfl⟩
  · rw [a1]
    refine .inr (.inl ⟨x, rfl, ?_, a3⟩)
    show (rewR d (N / 2) C.L (liveL C.E now)).2.2.brk = true
    rw [a4]
  · rw [a1]
    refine .inr (.inr ⟨x, rfl, ?_⟩)
    have h2 := h.more (Nat.le_succ K)
    show CL S now N (K + 1) (rewR d (N / 2) C.L (liveL C.E now)).2.1 ⟨(rewR d (N / 2) C.L (liveL C.E now)).2.2, C.E, C.til⟩
    rw [a4, a5]
    exact ⟨h2.sa, h2.wl, h2.le⟩
theorem ansC_ne (x : Ans) : ansC x ≠ 10 := by unfold ansC; split <;> decide
theorem insT_plain {S : EL} {now : Int} {N K : Nat} {d : DiskD} {C : CacheD} {q : Ent2} (h : CL S now N K d C) (hS : WL S) (hk : DOk d) (hK : K < 256) (hq : EntOk q) :
    ((insT d (N / 2) C q).1 = 10 ∧ CL (refPut S q).1 now N K (insT d (N / 2) C q).2.1 (insT d (N / 2) C q).2.2) ∨
    ((insT d (N / 2) C q).1 ≠ 10 ∧ (insT d (N / 2) C q).2.2.L.brk = true ∧ SB (PC S (refPut S q).1 now) N K (insT d (N / 2) C q).2.1) ∨
    ((insT d (N / 2) C q).1 ≠ 10 ∧ CL S now N K (insT d (N / 2) C q).2.1 (insT d (N / 2) C q).2.2) := by
  unfold insT
  split
  · exact .inr (.inr ⟨(by decide : (9 : Int) ≠ 10), h⟩)
  · obtain ⟨es, hsa⟩ := h.sa
    have hes : liveL (refOf es) now = liveL S now := hsa.p.elim id id
    have hput : liveL (refOf (es ++ [q])) now = liveL (refPut S q).1 now := by
      rw [of_snoc]
      exact le_put (WL.of (fun p hp => (hsa.lv.eo p hp).1)) hS hq hes
    have h1 := sa_append (P' := PC S (refPut S q).1 now) hsa hk hK hq (.inl hes) (.inr hput)
    rcases h1 with ⟨a1, a2, _⟩ | ⟨x, a1, a2, a3, a4⟩ | ⟨x, a1, a2, a3, a4, a5⟩
    · rw [a1]
      exact .inl ⟨rfl, ⟨⟨_, a2.imp (fun _ => .inl hput) (Nat.le_refl _)⟩, h.wl.put hq, le_put h.wl hS hq h.le⟩⟩
    · rw [a1]
      refine .inr (.inl ⟨ansC_ne _, ?_, a3⟩)
      show (appL d (N / 2) C.L q).brk = true
      rw [a4]
    · rw [a1]
      refine .inr (.inr ⟨ansC_ne _, ?_⟩)
      show CL S now N K (appD d (N / 2) C.L q) ⟨appL d (N / 2) C.L q, C.E, C.til⟩
      rw [a4, a5]
      exact ⟨h.sa, h.wl, h.le⟩
theorem SB.left {A B : EL} {now : Int} {N K : Nat} {d : DiskD} (h : SB (PC A A now) N K d) : SB (PC A B now) N K d := h.imp (fun _ _ h => .inl (h.elim id id)) (Nat.le_refl _)
theorem cmpR_ok {d : DiskD} {h : Nat} {C : CacheD} {now : Int} (hd : DOk (rewR d h C.L (liveL C.E now)).2.1) : DOk (cmpR d h C now).2.1 := by
  unfold cmpR
  split <;> exact hd
theorem ins_plain {S : EL} {now : Int} {N K : Nat} {d : DiskD} {C : CacheD} {q : Ent2} (h : CL S now N K d C) (hS : WL S) (hk : DOk d) (hK : K + 1 < 256) (hq : EntOk q) (hd : DOk (cmpR d (N / 2) C now).2.1) :
    ((insR d (N / 2) C q now).1 = 10 ∧ CL (refPut S q).1 now N (K + 1) (insR d (N / 2) C q now).2.1 (insR d (N / 2) C q now).2.2) ∨
    ((insR d (N / 2) C q now).1 ≠ 10 ∧ (insR d (N / 2) C q now).2.2.L.brk = true ∧ SB (PC S (refPut S q).1 now) N (K + 1) (insR d (N / 2) C q now).2.1) ∨
    ((insR d (N / 2) C q now).1 ≠ 10 ∧ CL S now N (K + 1) (insR d (N / 2) C q now).2.1 (insR d (N / 2) C q now).2.2) := by
  have h0 := h.more (Nat.le_succ K)
  unfold insR
  split
  · exact .inr (.inr ⟨(by decide : (8 : Int) ≠ 10), h0⟩)
  split
  · exact .inr (.inr ⟨(by decide : (9 : Int) ≠ 10), h0⟩)
  split
  · exact .inr (.inr ⟨(by decide : (9 : Int) ≠ 10), h0⟩)
  split
  · exact .inr (.inr ⟨(by decide : (9 : Int) ≠ 10), h0⟩)
  split
  · rcases cmp_plain (now := now) h hk hK with ⟨a1, a2, _⟩ | ⟨x, a1, a2, a3⟩ | ⟨x, a1, a2⟩
    · rw [a1]
      exact insT_plain a2 hS hd hK hq
    · rw [a1]
      exact .inr (.inl ⟨ansC_ne _, a2, a3.left⟩)
    · rw [a1]
      exact .inr (.inr ⟨ansC_ne _, a2⟩)
  · exact insT_plain h0 hS hk (by omega) hq
theorem ins_brk {d : DiskD} {h : Nat} {C : CacheD} {q : Ent2} {now : Int} (hb : C.L.brk = true) : (insR d h C q now).1 = (if hasE C.E q.1 now then 8 else 9) ∧ (insR d h C q now).2 = (d, C) := by
  unfold insR
  rw [if_pos hb]
  split
  · exact ⟨rfl, rfl⟩
  · exact ⟨rfl, rfl⟩
theorem cmp_brk {d : DiskD} {h : Nat} {C : CacheD} {now : Int} (hb : C.L.brk = true) : cmpR d h C now = (some (11, none), d, C) := by
  have e : rewR d h C.L (liveL C.E now) = (some (11, none), d, C.L) := by unfold rewR; rw [if_pos hb]
  unfold cmpR
  rw [e]
theorem open_plain {A B : EL} {now : Int} {N K : Nat} {d : DiskD} (h : SB (PC A B now) N K d) (hk : DOk d) (hN : 2 ≤ N) (hK : K + 1 < 256) (til : Int) :
    (∃ x, (openR d).1 = some x ∧ (openR d).2.2 = none ∧ SB (PC A B now) N (K + 1) (openR d).2.1) ∨
    (∃ L es, (openR d).1 = none ∧ (openR d).2.2 = some (L, es) ∧ PC A B now 0 es ∧ CL (liveL (refOf es) now) now N (K + 1) (openR d).2.1 ⟨L, liveL (refOf es) now, til⟩ ∧ es.length ≤ N) := by
  rcases sb_open (P := PC A B now) (fun h => h) h hk hN hK with h1 | ⟨L, es, a1, a2, a3⟩
  · exact .inl h1
  · have hwl : WL (refOf es) := WL.of (fun p hp => (a3.lv.eo p hp).1)
    exact .inr ⟨L, es, a1, a2, a3.p, ⟨⟨es, a3.imp (fun _ => .inl (liveL_live _ (Int.le_refl _)).symm) (Nat.le_refl _)⟩, hwl.live now, rfl⟩, by have := a3.lv.fit; omega⟩
theorem SB.startC {P : Nat → List Ent2 → Prop} {N K : Nat} {d : DiskD} (h : SB P N K d) : SB P N K (startD d) := h.disk rfl rfl
end Go.Proofs.YtombncedfleljaaGreat
namespace Go.Proofs.YtombncedfleljaaGreat
open Go.RowKit
attribute [local irreducible] wpQuiet wpAnyH
set_option linter.unusedSimpArgs false

def addS (a b : Int) : Int := if a + b > 9223372036854775807 then 9223372036854775807 else if a + b < -9223372036854775808 then -9223372036854775808 else a + b
theorem addS_i64 (a b : Int) : isI64 (addS a b) := by unfold addS isI64; split <;> (try split) <;> omega
theorem ret_i64 {a b : Int} (h : a = b) : Ending.returned (.int .i64 a) = .returned (.int .i64 b) := by rw [h]
def Put1 (w : World) (g : Nat) (z : Int) (w' : World) : Prop := w' = w.setCell ⟨g, 0, none⟩ (.int .i64 z)
set_option maxRecDepth 100000 in
set_option maxHeartbeats 1000000 in
theorem add1_any (a b : Int) (g : Nat) (t : TypeId) (w : World) (ha : isI64 a) (hb : isI64 b) (hB : Blk w g t #[.int .i64 a]) :
    Calls Tryz.prog 68 #[.int .i64 b, .pointer (some ⟨g, 0, none⟩)] w fun e w' => e = .returned (.tuple #[]) ∧ Put1 w g (addS a b) w' := by
  have hc := hB.cell 0
  have hf := hB.frozen 0
  simp only [List.getElem?_toArray, List.getElem?_cons_zero] at hc
  obtain ⟨s, hs⟩ : ∃ s, wrap64 (a + b) = s := ⟨_, rfl⟩
  have hwr : (-9223372036854775808 ≤ a + b ∧ a + b ≤ 9223372036854775807 ∧ s = a + b) ∨ (9223372036854775807 < a + b ∧ s = a + b - 18446744073709551616) ∨ (a + b < -9223372036854775808 ∧ s = a + b + 18446744073709551616) := by
    rw [← hs]
    unfold isI64 at ha hb
    unfold wrap64
    omega
  have HW := Lib.hid hwr
  have HA := Lib.hid ha
  have HB' := Lib.hid hb
  clear hwr ha hb hB
  have hq : addS a b = if 9223372036854775807 < a + b then 9223372036854775807 else if a + b < -9223372036854775808 then -9223372036854775808 else a + b := rfl
  have HQ := Lib.hid hq
  clear hq
  rcases Bool.eq_false_or_eq_true (decide (0 ≤ a)) with t1 | t1 <;> rcases Bool.eq_false_or_eq_true (decide (0 ≤ b)) with t2 | t2 <;> rcases Bool.eq_false_or_eq_true (decide (s < 0)) with t3 | t3
  all_goals
    have n1 : decide (a < 0) = !decide (0 ≤ a) := by by_cases h : 0 ≤ a <;> simp [h] <;> omega
    have n2 : decide (b < 0) = !decide (0 ≤ b) := by by_cases h : 0 ≤ b <;> simp [h] <;> omega
    have n3 : decide (0 ≤ s) = !decide (s < 0) := by by_cases h : 0 ≤ s <;> simp [h] <;> omega
    rw [t1] at n1
    rw [t2] at n2
    rw [t3] at n3
    simp only [Bool.not_true, Bool.not_false] at n1 n2 n3
    go_enter Tryz.func68, Tryz.ntmps68
    go_wp2_with fail
    go_end0
    refine ⟨rfl, ?_⟩
    unfold Put1
    rw [HQ.out]
    have h1 := HW.out
    have h2 := HA.out
    have h3 := HB'.out
    unfold isI64 at h2 h3
    simp only [decide_eq_true_eq, decide_eq_false_iff_not] at t1 t2 t3
    first
      | (rw [if_pos (by omega)])
      | (rw [if_neg (by omega), if_pos (by omega)])
      | (rw [if_neg (by omega), if_neg (by omega)]; congr 2; omega)

set_option maxRecDepth 100000 in
set_option maxHeartbeats 1000000 in
theorem add_any (a b : Int) (v : Value) (w : World) (ha : isI64 a) (hb : isI64 b) (hs : Sl w v [.int .i64 b]) :
    Calls Tryz.prog 44 #[.int .i64 a, v] w fun e w' => e = .returned (.int .i64 (addS a b)) ∧ Below w.heap.size w w' := by
  obtain ⟨A, cap, rfl, hcap, hx⟩ := hs
  obtain ⟨bk, off, rfl, hcell⟩ := hx (by simp)
  have hc0 := hcell 0 _ rfl
  have hlt := cell_lt hc0
  simp only [List.length_cons, List.length_nil, Nat.zero_add, Nat.add_zero] at hc0 hcap hlt ⊢
  have HA := Lib.hid ha
  have HB := Lib.hid hb
  have HC := Lib.hid hc0
  clear hcell hx ha hb hc0
  go_enter Tryz.func44, Tryz.ntmps44
  go_wp2_with fail
  go_loopw [11] (fun i wr => ∃ k : Nat, k ≤ 1 ∧ i = .int .i64 k ∧ Blk wr w.heap.size 2 #[.int .i64 (if k = 0 then a else addS a b)] ∧ Below w.heap.size w wr) (fun i _ => 1 - (intOf i).toNat)
  case atStart => exact ⟨0, by omega, rfl, Blk.new _ _ _, (Below.refl _ _).alloc (Nat.le_refl _) _⟩
  case round =>
    obtain ⟨k, hk, rfl, hB, hbl⟩ := hrel
    rcases Nat.lt_or_ge k 1 with hlt1 | hge
    · obtain rfl : k = 0 := by omega
      rw [if_pos rfl] at hB
      have hc := Below.cell' (w := w) (w' := wr) ⟨hbl.os, hbl.tape, hbl.output, hbl.size, hbl.block⟩ HC.out
      have HBl := Lib.hid hB
      have hbl2 := Lib.hid hbl
      clear hB hbl
      go_wp2_with (go_at_call 68; refine (add1_any a b w.heap.size _ wr HA.out HB.out HBl.out).mono ?_; rintro e w' ⟨rfl, rfl⟩)
      exact ⟨⟨1, by omega, by go_num, by rw [if_neg (by omega)]; exact HBl.out.set_ 0 _, hbl2.out.setCell (Nat.le_refl _) _⟩, by simp [intOf]⟩
    · obtain rfl : k = 1 := by omega
      rw [if_neg (by omega)] at hB
      have hc := hB.cell 0
      simp only [List.getElem?_toArray, List.getElem?_cons_zero] at hc
      go_wp2_with fail
      go_ret
      exact ⟨rfl, hbl⟩

end Go.Proofs.YtombncedfleljaaGreat
namespace Go.Proofs.YtombncedfleljaaGreat
open Go.RowKit
attribute [local irreducible] wpQuiet wpAnyH
set_option linter.unusedSimpArgs false
set_option linter.unusedVariables false

theorem fAt_lenR (d : DiskD) (h : Nat) (L : LogD) : ∀ k es, (fAt d h L k).1 = some es → es.length ≤ d.sec.length
  | 0, es, he => by cases he
  | k + 1, es, he => by
    have ih := fAt_lenR d h L k
    have h1 := scanL_len ((d.sec.drop (sFrom h k)).take h) (none, [])
    rw [List.length_take, List.length_drop] at h1
    have h2 : (slotS d (sFrom h k) h).2.length ≤ d.sec.length := by unfold slotS; simp at h1; omega
    unfold fAt fNext at he
    cases hg : (slotS d (sFrom h k) h).1 with
    | none => rw [hg] at he; exact ih es he
    | some g =>
      rw [hg] at he
      simp only at he
      split at he
      · exact ih es he
      · injection he with he; rw [← he]; exact h2
theorem openR_cases (d : DiskD) : (∃ x, (openR d).1 = some x ∧ (openR d).2.2 = none) ∨ (∃ L es, (openR d).1 = none ∧ (openR d).2.2 = some (L, es) ∧ es.length ≤ d.sec.length) := by
  unfold openR
  split
  · exact .inl ⟨_, rfl, rfl⟩
  · split
    · exact .inl ⟨_, rfl, rfl⟩
    · unfold openS
      split
      · rename_i es he
        exact .inr ⟨_, es, rfl, rfl, by have := fAt_lenR _ _ _ _ es he; rw [syncS_len] at this; exact this⟩
      · split
        · exact .inl ⟨_, rfl, rfl⟩
        · split
          · exact .inl ⟨_, rfl, rfl⟩
          · exact .inr ⟨_, [], rfl, rfl, Nat.zero_le _⟩
/-- What Open hands back. -/
def CacheW (w w' : World) (m' : DiskM) (n : Nat) (r : Ans × DiskD × Option (LogD × List Ent2)) (pc : Value) (now til : Int) : Prop := match r.2.2 with
  | none => pc = .pointer none
  | some (L, es) => ∃ gc gl gi bi, pc = .pointer (some ⟨gc, 0, none⟩) ∧ CK w' m' r.2.1 gc gl gi bi (n / 2) es.length ⟨L, liveL (refOf es) now, til⟩ ∧ w.heap.size ≤ gc ∧ w.heap.size ≤ gl ∧ w.heap.size ≤ gi ∧ w.heap.size ≤ bi ∧ ∀ q ∈ es, EntOk q
theorem cache_built (gl gi : Nat) (t : Int) : Tryz.prog.built 84 [(0, .pointer (some ⟨gl, 0, none⟩)), (1, .pointer (some ⟨gi, 0, none⟩)), (2, .int .i64 t)] = some (cacheC gl gi t) := by unfold cacheC; kernel_rfl

set_option maxRecDepth 100000 in
set_option maxHeartbeats 8000000 in
theorem c_open (skew now : Int) (w : World) (m : DiskM) (d : DiskD) (hk : DK w m d) (hr : d.room + 10 ≤ 100000) (hl : d.sec.length ≤ 1000) (hs : isI64 skew) (hn : isI64 now) :
    Calls Tryz.prog 18 #[.pointer (some ⟨m.g, 0, none⟩), .int .i64 skew, .int .i64 now] w fun e w' => ∃ pc m', e = .returned (.tuple #[pc, valE (openR d).1]) ∧ DK w' m' (openR d).2.1 ∧ DT w m w' m' ∧ CacheW w w' m' d.sec.length (openR d) pc now (addS now skew) := by
  have HO := Lib.hid (log_open w m d hk hr)
  have HK := Lib.hid hk
  have HSK := Lib.hid hs
  have HNW := Lib.hid hn
  clear hk hs hn
  obtain ⟨g9, hg9⟩ : ∃ g, g = m.g := ⟨_, rfl⟩
  rw [← hg9] at HO ⊢
  clear hg9
  rcases openR_cases d with ⟨x, h1, h2⟩ | ⟨L, es, h1, h2, h3⟩
  · rw [h1] at HO ⊢
    have H2 := Lib.hid h2
    obtain ⟨ty, u, hv⟩ := valE_form x
    rw [hv] at HO ⊢
    have hne := neq_nil ty u
    clear hv h1 h2
    go_enter Tryz.func18, Tryz.ntmps18
    go_wp2_with fail
    refine HO.out.mono ?_
    rintro e w1 ⟨pl, ve, m1, rfl, hk1, ht1, how⟩
    have HK1 := Lib.hid hk1
    have HT1 := Lib.hid ht1
    clear hk1 ht1 how HO
    go_wp2_with fail
    go_ret2
    exact ⟨_, m1, rfl, HK1.out, HT1.out, by unfold CacheW; rw [H2.out]; rfl⟩
  · rw [h1] at HO ⊢
    have H2 := Lib.hid h2
    have hvn : valE none = .nilIface := rfl
    rw [hvn] at HO ⊢
    clear h1 h2
    go_enter Tryz.func18, Tryz.ntmps18
    go_wp2_with fail
    refine HO.out.mono ?_
    rintro e w1 ⟨pl, ve, m1, rfl, hk1, ht1, how⟩
    unfold OpenW at how
    rw [H2.out] at how
    obtain ⟨gl, rfl, hlk, hgl, hown, hok, hoa⟩ := how
    have HLK := Lib.hid hlk
    have HT1 := Lib.hid ht1
    have HOK := Lib.hid hok
    have HNE := Lib.hid (xk_new ve es w1 (Sn.own hown) hok (by omega))
    have HGL : Hid (w.heap.size ≤ gl ∧ gl < w1.heap.size) := Lib.hid ⟨hgl, hlk.blk.lt⟩
    have HH : Hid (w.heap.size ≤ w1.heap.size) := Lib.hid ht1.fo.size
    clear hk1 ht1 hlk hok hown hoa hgl HO
    go_wp2_with fail
    refine HNE.out.mono ?_
    rintro e w2 ⟨gi, bi, rfl, hx2, hgi, hbi, hib, hb2⟩
    have HX2 := Lib.hid hx2
    have HB2 := Lib.hid hb2
    have HIB : Hid (w1.heap.size ≤ gi ∧ w1.heap.size ≤ bi ∧ gi ≠ bi ∧ gi < w2.heap.size ∧ bi < w2.heap.size) := Lib.hid ⟨hgi, hbi, hib, hx2.lt.1, hx2.lt.2⟩
    have HAD := Lib.hid (fun W v (hv : Sl W v [.int .i64 skew]) => add_any now skew v W HNW.out HSK.out hv)
    clear hx2 hb2 hgi hbi hib HNE
    obtain ⟨til, htil⟩ : ∃ t, t = addS now skew := ⟨_, rfl⟩
    have HTI : Hid (isI64 til) := Lib.hid (by rw [htil]; exact addS_i64 now skew)
    rw [← htil] at HAD
    have HTL := Lib.hid htil
    clear htil
    have HBL := Lib.hid (cache_built gl gi til)
    have hsl : Sl (w2.alloc (.cells #[.int .i64 skew] 2)) (.slice (some ⟨w2.heap.size, 0, none⟩) 1 1) [.int .i64 skew] :=
      ⟨some ⟨w2.heap.size, 0, none⟩, 1, rfl, by simp, fun _ => ⟨w2.heap.size, 0, rfl, (Blk.new w2 2 #[.int .i64 skew]).range⟩⟩
    have HSL := Lib.hid hsl
    clear hsl
    go_wp2_with fail
    refine (HAD.out _ _ HSL.out).mono ?_
    rintro e w3 ⟨rfl, hb3⟩
    have HB3 : Hid (Below w2.heap.size w2 w3) := Lib.hid (bstep (bel1 _ _) hb3)
    obtain ⟨w4, hw4⟩ : ∃ w4, w4 = w3.alloc (.cells (cacheC gl gi til) 84) := ⟨_, rfl⟩
    obtain ⟨gc, hgc⟩ : ∃ g, g = w3.heap.size := ⟨_, rfl⟩
    have HC4 : Hid (Blk w4 gc 84 (cacheC gl gi til)) := Lib.hid (by rw [hw4, hgc]; exact Blk.new _ _ _)
    have HB4 : Hid (Below w2.heap.size w2 w4) := Lib.hid (bstep HB3.out (by rw [hw4]; exact bel1 _ _))
    have HGC : Hid (w2.heap.size ≤ gc) := Lib.hid (by rw [hgc]; exact HB3.out.size)
    have HX4 := Lib.hid (HX2.out.keep HB4.out)
    have HDR := Lib.hid (xk_drop w4 gi bi es.length (refOf es) now HX4.out (by omega))
    obtain ⟨_, c1, _⟩ := cache_cells HC4.out
    clear hb3 HAD HSL
    go_upto_region 5 with (refine bld 84 _ rfl rfl rfl HBL.out ?_)
    rw [← hw4, ← hgc]
    clear hw4 hgc
    go_wp2_with fail
    refine HDR.out.mono ?_
    rintro e w5 ⟨kd, rfl, hx5, ho5⟩
    have HX5 := Lib.hid hx5
    have HO5 := Lib.hid ho5
    clear hx5 ho5 HDR c1
    go_wp2_with fail
    go_ret2
    have hlt : gc < w4.heap.size := HC4.out.lt
    have hc4 := HC4.out
    rw [HTL.out] at hc4
    have hb2 := bstep HB2.out HB4.out
    have hbl : Below w1.heap.size w1 w4 := hb2
    have hi := HIB.out
    have hg := HGL.out
    have hbi : w1.heap.size ≤ bi := hi.2.1
    have hlk4 := HLK.out.keep hbl
    have hgcw : w1.heap.size ≤ gc := Nat.le_trans HB2.out.size HGC.out
    have hgs := HGC.out
    have hk5 : DK w5 m1 (openR d).2.1 := hlk4.dk.offO HO5.out (Apart.fresh HLK.out.dk hbi)
    refine ⟨_, m1, rfl, hk5, HT1.out.trans (DT.of_below (hbl.trans (HO5.out.below hbi (Nat.le_trans hbl.size (Nat.le_refl _))))), ?_⟩
    unfold CacheW
    rw [H2.out]
    refine ⟨gc, gl, gi, bi, rfl, ⟨⟨hk5, (HO5.out.block gl hlk4.blk.lt (by omega)).trans hlk4.blk, hlk4.ap, hlk4.ok⟩, (HO5.out.block gc hlt (by omega)).trans hc4, HX5.out, Apart.fresh HLK.out.dk hgcw, Apart.fresh HLK.out.dk hi.1, Apart.fresh HLK.out.dk hbi, ⟨by omega, by omega, by omega, by omega, hi.2.2.1⟩, addS_i64 _ _⟩, by have := HH.out; omega, hg.1, by have := HH.out; omega, by have := HH.out; omega, HOK.out⟩
end Go.Proofs.YtombncedfleljaaGreat
namespace Go.Proofs.YtombncedfleljaaGreat
open Go.RowKit
attribute [local irreducible] wpQuiet wpAnyH
set_option linter.unusedSimpArgs false

section
variable {P : Program}
/-- A slice as a pointer to an array: the address it begins at. -/
theorem s2a {ops : Array Oper} {rest : List Oper} {o : Oper} {a : Act} {w : World} {Q : Exit → Act → World → Prop} (arr : TypeId) (x : Operand) (ho : o.op = .sliceToArrayPointer arr x) (hw : Region.wanted o (yielded ops a.tmps) = true)
    {A : Option Addr} {n cap m : Nat} {e : TypeId} (hv : a.eval x = .slice A n cap) (hu : P.underlying arr = some (.array m e)) (hn : m ≤ n)
    (h : wpList P ops Q rest (a.put o.dst (.pointer A)) w) : wpList P ops Q (o :: rest) a w :=
  wpList_step fun K hK => by
    rw [if_pos hw]
    unfold Oper.wp
    have hrun : (execOp a.eval o).run P w = .ok (.value (.pointer A)) w := by
      unfold execOp
      simp only [ho, hv, Instr.arrayAt]
      simp only [Sem.run_bind, Sem.run_pure, Result.andThen_ok, run_underlying hu, if_neg (Nat.not_lt.2 hn)]
    rw [hrun, Oper.upon_value]
    exact hK _ _ h
/-- An operation whose run is known. -/
theorem pv {ops : Array Oper} {rest : List Oper} {o : Oper} {a : Act} {w : World} {Q : Exit → Act → World → Prop} (op : Op) (_ : o.op = op) (hw : Region.wanted o (yielded ops a.tmps) = true)
    {v : Value} (hrun : (execOp a.eval o).run P w = .ok (.value v) w) (h : wpList P ops Q rest (a.put o.dst v) w) : wpList P ops Q (o :: rest) a w :=
  wpList_step fun K hK => by
    rw [if_pos hw]
    unfold Oper.wp
    rw [hrun, Oper.upon_value]
    exact hK _ _ h
end

def spX (x : Nat) : Nat := (x * 6364136223846793005 + 1442695040888963407) % 18446744073709551616
def spB (x : Nat) : Int := ((x / 8589934592 % 256 : Nat) : Int)
def spIt (x : Nat) : Nat → Nat
  | 0 => x
  | n + 1 => spX (spIt x n)
def spL (x : Nat) (n : Nat) : List Int := (List.range n).map fun j => spB (spIt x (j + 1))
theorem spL_length (x n : Nat) : (spL x n).length = n := by simp [spL]
theorem spL_bys (x n : Nat) : Bys (spL x n) := fun b hb => by
  simp only [spL, List.mem_map] at hb
  obtain ⟨j, _, rfl⟩ := hb
  unfold spB
  omega
theorem spL_succ (x n : Nat) : spL x (n + 1) = spL x n ++ [spB (spIt x (n + 1))] := by simp [spL, List.range_succ]
theorem spIt_lt {x : Nat} (h : x < 18446744073709551616) : ∀ n, spIt x n < 18446744073709551616
  | 0 => h
  | n + 1 => Nat.mod_lt _ (by omega)
theorem list_of_range32 (s : List Int) (h : s.length = 32) : s = (List.range 32).map (fun i => s.getD i 0) := by
  apply List.ext_getElem
  · simp [h]
  · intro i h1 h2
    simp [h1]
theorem built_num (s : List Int) (t : Int) (h : s.length = 32) : Tryz.prog.built 35 [(0, .agg (u8s s).toArray), (1, .int .i64 t)] = some (entP (s, t)).toArray := by
  rw [list_of_range32 s h]
  generalize (fun i => s.getD i 0) = D
  kernel_rfl
def numE (n : Nat) (t : Int) : List Int × Int := (spL n 32, t)
theorem numE_ok (n : Nat) (t : Int) (ht : isI64 t) : EntOk (numE n t) := ⟨⟨spL_length _ _, spL_bys _ _⟩, ht⟩

set_option maxRecDepth 100000 in
set_option maxHeartbeats 1000000 in
theorem spread_any (x n : Nat) (w : World) (hx : x < 18446744073709551616) (hn : n ≤ 100000) :
    Calls Tryz.prog 28 #[.int .u64 x, .int .i64 n] w fun e w' => ∃ v, e = .returned v ∧ w'.ownsRow w.heap.size 5 1 v n (u8s (spL x n)) ∧ Below w.heap.size w w' := by
  have HX := Lib.hid hx
  clear hx
  go_enter Tryz.func28, Tryz.ntmps28
  go_wp2_with fail
  go_loopw [5, 6, 7] (fun out y i wr => ∃ k : Nat, k ≤ n ∧ i = .int .i64 k ∧ y = .int .u64 (spIt x k) ∧ Hid (wr.ownsRow w.heap.size 5 1 out k (u8s (spL x k))) ∧ Hid (Below w.heap.size w wr)) (fun _ _ i _ => n - (intOf i).toNat)
  case atStart => exact ⟨0, Nat.zero_le _, rfl, rfl, Lib.hid (World.ownsRow_nil _ _ _ _), Lib.hid (Below.refl _ _)⟩
  case round =>
    obtain ⟨k, hk, rfl, rfl, HO, HB⟩ := hrel
    have hszr := HB.out.size
    rcases Nat.lt_or_ge k n with hlt | hge
    · have hb := spIt_lt HX.out k
      have k1 : IntKind.u64.wrap (IntKind.u64.wrap ((spIt x k : Int) * 6364136223846793005) + 1442695040888963407) = (spIt x (k + 1) : Int) := by
        show _ = ((spX (spIt x k) : Nat) : Int)
        unfold IntKind.wrap spX
        simp only [IntKind.signed, IntKind.bits]
        simp
      have hy := spIt_lt HX.out (k + 1)
      have HSU := Lib.hid (spL_succ x k)
      obtain ⟨y, hyd⟩ : ∃ y, y = spIt x (k + 1) := ⟨_, rfl⟩
      have HYD := Lib.hid hyd
      rw [← hyd] at k1 hy HSU
      clear hyd
      have hsh : (Int.fdiv (y : Int) 8589934592) = ((y / 8589934592 : Nat) : Int) := by rw [Int.fdiv_eq_ediv_of_nonneg _ (by omega)]; omega
      have k3 : IntKind.u8.wrap ((y / 8589934592 : Nat) : Int) = spB y := by unfold IntKind.wrap spB; simp [IntKind.signed, IntKind.bits]
      go_wp2_with (first | (refine pv (v := .int .u64 ((y : Int).fdiv 8589934592)) (Op.binOp BinOp.shr 80 (Operand.tmp 18) (Operand.const (Value.int IntKind.u64 33)) 104) rfl rfl (by kernel_rfl) ?_; rw [hsh]) | (at_builtin; refine app tByt (.tmp 17) (.tmp 21) rfl rfl (by rfl) (World.ownsRow.alloc HO.out _) (by rfl) (Sn.new wr (u8s [spB y]).toArray 5 1 1 rfl) (u8s_mem [spB y]) (by unfold maxLen; omega) (by omega) (by simp; omega) ?_; intro v3 w3 hown hgrow _; rw [List.toList_toArray, ← u8s_append] at hown; have HO3 := Lib.hid hown; have HB3 := Lib.hid ((HB.out.alloc hszr _).grown hgrow (by simp; omega) (fun g hg => (World.ownsRow.lt HO.out g hg).1)); clear hown hgrow))
      exact ⟨⟨k + 1, by omega, by go_num, by rw [HYD.out], Lib.hid (by rw [HSU.out]; exact HO3.out), HB3⟩, by simp [intOf]; omega⟩
    · obtain rfl : k = n := by omega
      go_wp2_with fail
      go_ret
      exact ⟨_, rfl, HO.out, HB.out⟩

set_option maxRecDepth 100000 in
set_option maxHeartbeats 1000000 in
theorem number17 (n : Nat) (t : Int) (w : World) (hn : n < 4294967296) (ht : isI64 t) :
    Calls Tryz.prog 9 #[.int .i64 n, .int .i64 t] w fun e w' => e = .returned (.agg (entP (numE n t)).toArray) ∧ Below w.heap.size w w' := by
  have HN : Hid (numE n t = (spL n 32, t)) := Lib.hid rfl
  have HSP := Lib.hid (fun w1 => spread_any n 32 w1 (by omega) (by omega))
  have h3 := spL_length n 32
  have h2 : (entP (spL n 32, t)).length = 33 := entP_length _ (numE_ok n t ht)
  rw [HN.out]
  obtain ⟨s, hs⟩ : ∃ s, s = spL n 32 := ⟨_, rfl⟩
  rw [← hs] at HSP h2 h3 ⊢
  clear hs HN ht
  have h1 : (entP (s, t)).toArray.all (·.oneCell') = true := entC_one _ _
  have HS : Hid ((u8s s).length = 32) := Lib.hid (by rw [u8s_length, h3])
  have HBL := Lib.hid (built_num s t h3)
  have hn0 : (0 : Int) ≤ n := by omega
  have hsz : zE.size = (entP (s, t)).toArray.size := by rw [zE_size, List.size_toArray, h2]
  have hsz2 : (Tryz.prog.info? 35).map (·.size) = some (entP (s, t)).toArray.size := by rw [List.size_toArray, h2]; kernel_rfl
  obtain ⟨E, hE⟩ : ∃ E, E = (entP (s, t)).toArray := ⟨_, rfl⟩
  rw [← hE] at h1 HBL hsz hsz2 ⊢
  clear hE h2 h3
  obtain ⟨w1, hw1⟩ : ∃ w1, w1 = w.alloc (.cells zE 35) := ⟨_, rfl⟩
  have HB1 : Hid (Below w.heap.size w w1) := Lib.hid (by rw [hw1]; exact (Below.refl _ w).alloc (Nat.le_refl _) _)
  have HE1 : Hid (Blk w1 w.heap.size 35 zE) := Lib.hid (by rw [hw1]; exact Blk.new _ _ _)
  go_enter Tryz.func9, Tryz.ntmps9
  go_wp2_with (refine al 35 _ rfl rfl zeroE ?_)
  rw [← hw1]
  clear hw1
  refine (HSP.out w1).mono ?_
  rintro e w2 ⟨v, rfl, ho, hb2⟩
  have HB2 := Lib.hid (bstep HB1.out hb2)
  have HE2 := Lib.hid (HE1.out.keep hb2)
  obtain ⟨A, cap, rfl, _, _, hx⟩ := Sn.own ho
  obtain ⟨b, off, rfl, hcell⟩ := hx (by omega)
  have HR : Hid (w2.rangeAt b off (u8s s)) := Lib.hid hcell
  clear ho hb2 hx hcell
  go_wp2_with (first
    | (refine s2a 33 _ rfl rfl rfl Tryz.underlying33 (by omega) ?_)
    | (refine ld 33 _ rfl rfl rfl HR.out Tryz.underlying33 rfl (by rw [HS.out]; kernel_rfl) ?_)
    | (refine bld 35 _ rfl rfl rfl HBL.out ?_)
    | (refine stBlk 35 (.tmp 4) (.tmp 11) rfl rfl rfl rfl HE2.out hsz2 hsz h1 ?_; intro w3 hB3 hb3 _ _; have HB3 := Lib.hid hB3; have HE3 := Lib.hid hb3; clear hB3 hb3))
  refine bodyPost_ret (results_cell_row rfl _ _ w.heap.size 35 _ (0, 0) _ rfl HB3.out Tryz.underlying35 rfl hsz2) rfl ⟨rfl, ?_⟩
  exact HB2.out.trans (HE3.out.mono (Nat.le_refl _))
end Go.Proofs.YtombncedfleljaaGreat
namespace Go.Proofs.YtombncedfleljaaGreat
open Go.RowKit
attribute [local irreducible] wpQuiet wpAnyH
set_option linter.unusedSimpArgs false

structure Op21 where
  kind : Int
  n : Int
  ent : Int
  more : Int
  cuts : List Int
  cv : Value
def opC21 (o : Op21) : List Value := [.int .i64 o.kind, .int .i64 o.n, .int .i64 o.ent, .int .i64 o.more, o.cv]
structure Op21Ok (w : World) (o : Op21) : Prop where
  kind : isI64 o.kind
  n : isI64 o.n
  ent : isI64 o.ent
  more : isI64 o.more
  cuts : Sn w 1 o.cv o.cuts.length (i64s o.cuts)
  cok : ∀ c ∈ o.cuts, isI64 c
def Few21 (o : Op21) : Prop := o.cuts.length ≤ 20 ∧ 0 ≤ o.n ∧ o.n ≤ 1048576 ∧ -1048576 ≤ o.more ∧ o.more ≤ 4611686017353646080
theorem Op21Ok.keep {w w' : World} {o : Op21} (h : Op21Ok w o) (hb : Below w.heap.size w w') : Op21Ok w' o := ⟨h.kind, h.n, h.ent, h.more, h.cuts.below hb, h.cok⟩
theorem opC21_length (o : Op21) : (opC21 o).length = 5 := rfl
theorem opI21 (o : Op21) : (Tryz.prog.info? 31).map (·.size) = some (opC21 o).length := by rw [opC21_length]; kernel_rfl
theorem Sn.slc21 {w : World} {s n : Nat} {v : Value} {xs : List Value} (h : Sn w s v n xs) : ∃ A cap, v = .slice A n cap := by
  obtain ⟨A, cap, e, _⟩ := h
  exact ⟨A, cap, e⟩
theorem op_cells21 {w : World} {g : Nat} {o : Op21} (h : Blk w g 31 (opC21 o).toArray) : w.cell? ⟨g, 0, none⟩ = some (.int .i64 o.kind) ∧ w.cell? ⟨g, 1, none⟩ = some (.int .i64 o.n) ∧ w.cell? ⟨g, 2, none⟩ = some (.int .i64 o.ent) ∧ w.cell? ⟨g, 3, none⟩ = some (.int .i64 o.more) ∧ w.cell? ⟨g, 4, none⟩ = some o.cv :=
  ⟨(h.cell 0).trans rfl, (h.cell 1).trans rfl, (h.cell 2).trans rfl, (h.cell 3).trans rfl, (h.cell 4).trans rfl⟩
theorem op_at21 {w : World} {A : Option Addr} {cap : Nat} {l : List Op21} (h : Sn w 5 (.slice A l.length cap) l.length (l.flatMap opC21)) (k : Nat) (hk : k < l.length) :
    ∃ b off, A = some ⟨b, off, none⟩ ∧ w.rangeAt b (off + k * 5) (opC21 l[k]) := by
  obtain ⟨A', cap', hv, _, _, hx⟩ := h
  injection hv with hv _ _
  obtain ⟨b, off, he, hc⟩ := hx (by omega)
  refine ⟨b, off, hv.trans he, fun i u hi => ?_⟩
  have hi5 : i < 5 := (List.getElem?_eq_some_iff.1 hi).1
  have hp := flatMap_pieceM opC21 5 l (fun o _ => opC21_length o) k hk
  have : (l.flatMap opC21)[k * 5 + i]? = some u := by
    rw [← hi, ← hp, List.getElem?_take_of_lt hi5, List.getElem?_drop]
  have := hc (k * 5 + i) u this
  rw [show off + k * 5 + i = off + (k * 5 + i) by omega]
  exact this
def numI (z t : Int) : List Int × Int := numE (z % 18446744073709551616).toNat t
theorem numI_ok (z t : Int) (ht : isI64 t) : EntOk (numI z t) := numE_ok _ t ht
set_option maxRecDepth 100000 in
set_option maxHeartbeats 1000000 in
theorem number21 (z : Int) (t : Int) (w : World) (ht : isI64 t) :
    Calls Tryz.prog 9 #[.int .i64 z, .int .i64 t] w fun e w' => e = .returned (.agg (entP (numI z t)).toArray) ∧ Below w.heap.size w w' := by
  obtain ⟨n, hn⟩ : ∃ n, n = (z % 18446744073709551616).toNat := ⟨_, rfl⟩
  have hz0 : 0 ≤ z % 18446744073709551616 := Int.emod_nonneg _ (by decide)
  have hz1 : z % 18446744073709551616 < 18446744073709551616 := Int.emod_lt_of_pos _ (by decide)
  have hzn : z % 18446744073709551616 = (n : Int) := by rw [hn]; omega
  have hwz : IntKind.u64.wrap z = (n : Int) := by rw [← hzn]; rfl
  have hnl : n < 18446744073709551616 := by omega
  have HN : Hid (numI z t = (spL n 32, t)) := Lib.hid (by rw [hn]; rfl)
  clear hz0 hz1 hzn hn
  have HSP := Lib.hid (fun w1 => spread_any n 32 w1 (by omega) (by omega))
  have h3 := spL_length n 32
  have h2 : (entP (spL n 32, t)).length = 33 := entP_length _ (numE_ok n t ht)
  rw [HN.out]
  obtain ⟨s, hs⟩ : ∃ s, s = spL n 32 := ⟨_, rfl⟩
  rw [← hs] at HSP h2 h3 ⊢
  clear hs HN ht
  have h1 : (entP (s, t)).toArray.all (·.oneCell') = true := entC_one _ _
  have HS : Hid ((u8s s).length = 32) := Lib.hid (by rw [u8s_length, h3])
  have HBL := Lib.hid (built_num s t h3)
  have hn0 : (0 : Int) ≤ n := by omega
  have hn1 : (n : Int) < 18446744073709551616 := by omega
  have hsz : zE.size = (entP (s, t)).toArray.size := by rw [zE_size, List.size_toArray, h2]
  have hsz2 : (Tryz.prog.info? 35).map (·.size) = some (entP (s, t)).toArray.size := by rw [List.size_toArray, h2]; kernel_rfl
  obtain ⟨E, hE⟩ : ∃ E, E = (entP (s, t)).toArray := ⟨_, rfl⟩
  rw [← hE] at h1 HBL hsz hsz2 ⊢
  clear hE h2 h3
  obtain ⟨w1, hw1⟩ : ∃ w1, w1 = w.alloc (.cells zE 35) := ⟨_, rfl⟩
  have HB1 : Hid (Below w.heap.size w w1) := Lib.hid (by rw [hw1]; exact (Below.refl _ w).alloc (Nat.le_refl _) _)
  have HE1 : Hid (Blk w1 w.heap.size 35 zE) := Lib.hid (by rw [hw1]; exact Blk.new _ _ _)
  go_enter Tryz.func9, Tryz.ntmps9
  go_wp2_with (refine al 35 _ rfl rfl zeroE ?_)
  rw [← hw1]
  clear hw1
  refine (HSP.out w1).mono ?_
  rintro e w2 ⟨v, rfl, ho, hb2⟩
  have HB2 := Lib.hid (bstep HB1.out hb2)
  have HE2 := Lib.hid (HE1.out.keep hb2)
  obtain ⟨A, cap, rfl, _, _, hx⟩ := Sn.own ho
  obtain ⟨b, off, rfl, hcell⟩ := hx (by omega)
  have HR : Hid (w2.rangeAt b off (u8s s)) := Lib.hid hcell
  clear ho hb2 hx hcell
  go_wp2_with (first
    | (refine s2a 33 _ rfl rfl rfl Tryz.underlying33 (by omega) ?_)
    | (refine ld 33 _ rfl rfl rfl HR.out Tryz.underlying33 rfl (by rw [HS.out]; kernel_rfl) ?_)
    | (refine bld 35 _ rfl rfl rfl HBL.out ?_)
    | (refine stBlk 35 (.tmp 4) (.tmp 11) rfl rfl rfl rfl HE2.out hsz2 hsz h1 ?_; intro w3 hB3 hb3 _ _; have HB3 := Lib.hid hB3; have HE3 := Lib.hid hb3; clear hB3 hb3))
  refine bodyPost_ret (results_cell_row rfl _ _ w.heap.size 35 _ (0, 0) _ rfl HB3.out Tryz.underlying35 rfl hsz2) rfl ⟨rfl, ?_⟩
  exact HB2.out.trans (HE3.out.mono (Nat.le_refl _))
set_option maxRecDepth 100000 in
set_option maxHeartbeats 4000000 in
theorem few21 (A : Option Addr) (cap : Nat) (l : List Op21) (w : World) (hs : Sn w 5 (.slice A l.length cap) l.length (l.flatMap opC21)) (hok : ∀ o ∈ l, Op21Ok w o) (hl : l.length ≤ 9223372036854775807) :
    Calls Tryz.prog 7 #[.slice A l.length cap] w fun e w' => ∃ b : Bool, e = .returned (.int .i64 (if b then 1 else 0)) ∧ Below w.heap.size w w' ∧ (b = true → l.length ≤ 40 ∧ ∀ o ∈ l, Few21 o) := by
  have HS := Lib.hid hs
  have HOK := Lib.hid hok
  clear hs hok
  have hll : (l.length : Int) ≤ 9223372036854775807 := by omega
  go_enter Tryz.func7, Tryz.ntmps7
  go_wp2_with fail
  go_loopw [3] (fun i wr => ∃ k : Nat, k ≤ l.length ∧ i = .int .i64 (k : Int) ∧ Hid (∀ o ∈ l.take k, Few21 o) ∧ wr = w) (fun i _ => l.length - (intOf i).toNat)
  case atStart => exact ⟨0, Nat.zero_le _, rfl, Lib.hid (fun o ho => by simp at ho), rfl⟩
  case round =>
    obtain ⟨k, hk, rfl, HF, hw⟩ := hrel
    rw [hw]
    clear hw
    rcases Nat.lt_or_ge k l.length with hlt | hge
    · obtain ⟨b, off, hA, hr⟩ := op_at21 HS.out k hlt
      subst hA
      have ho := HOK.out _ (List.getElem_mem hlt)
      have HN : Hid (Few21 l[k] → ∀ o ∈ l.take (k + 1), Few21 o) := Lib.hid (fun h o ho => by
        rw [List.take_succ_eq_append_getElem hlt] at ho
        rcases List.mem_append.1 ho with ho | ho
        · exact HF.out o ho
        · rw [List.mem_singleton.1 ho]; exact h)
      obtain ⟨o, hoe⟩ : ∃ o, o = l[k] := ⟨_, rfl⟩
      rw [← hoe] at hr ho HN
      clear hoe
      obtain ⟨Ac, cc, ec⟩ := ho.cuts.slc21
      have c1 : w.cell? ⟨b, off + k * 5 + 1, none⟩ = some (.int .i64 o.n) := hr 1 _ rfl
      have c3 : w.cell? ⟨b, off + k * 5 + 3, none⟩ = some (.int .i64 o.more) := hr 3 _ rfl
      have c4 : w.cell? ⟨b, off + k * 5 + 4, none⟩ = some (.slice Ac o.cuts.length cc) := hr 4 _ (by rw [← ec]; rfl)
      have p1 : -9223372036854775808 ≤ o.n := ho.n.1
      have p2 : o.n ≤ 9223372036854775807 := ho.n.2
      have hi0 : (0 : Int) ≤ k := by omega
      have hi1 : (k : Int) < l.length := by omega
      clear hr ho ec
      rcases Bool.eq_false_or_eq_true (decide ((20 : Int) < (o.cuts.length : Int))) with t1 | t1
      · go_wp2_with fail
        go_ret
        exact ⟨false, rfl, Below.refl _ _, fun h => by cases h⟩
      · rcases Bool.eq_false_or_eq_true (decide (o.n < 0)) with t2 | t2
        · go_wp2_with fail
          go_ret
          exact ⟨false, rfl, Below.refl _ _, fun h => by cases h⟩
        · rcases Bool.eq_false_or_eq_true (decide ((1048576 : Int) < o.n)) with t3 | t3
          · go_wp2_with fail
            go_ret
            exact ⟨false, rfl, Below.refl _ _, fun h => by cases h⟩
          · rcases Bool.eq_false_or_eq_true (decide (o.more < -1048576)) with t4 | t4
            · go_wp2_with fail
              go_ret
              exact ⟨false, rfl, Below.refl _ _, fun h => by cases h⟩
            · rcases Bool.eq_false_or_eq_true (decide ((4611686017353646080 : Int) < o.more)) with t5 | t5
              · go_wp2_with fail
                go_ret
                exact ⟨false, rfl, Below.refl _ _, fun h => by cases h⟩
              · have HN2 := Lib.hid (HN.out ⟨by have := of_decide_eq_false t1; omega, by have := of_decide_eq_false t2; omega, by have := of_decide_eq_false t3; omega, by have := of_decide_eq_false t4; omega, by have := of_decide_eq_false t5; omega⟩)
                go_wp2_with fail
                exact ⟨⟨k + 1, by omega, by go_num, HN2, trivial⟩, by simp [intOf]; omega⟩
    · obtain rfl : k = l.length := by omega
      rw [List.take_length] at HF
      rcases Bool.eq_false_or_eq_true (decide ((40 : Int) < (l.length : Int))) with t1 | t1
      · go_wp2_with fail
        go_ret
        exact ⟨false, rfl, Below.refl _ _, fun h => by cases h⟩
      · go_wp2_with fail
        go_ret
        exact ⟨true, rfl, Below.refl _ _, fun _ => ⟨by have := of_decide_eq_false t1; omega, HF.out⟩⟩
end Go.Proofs.YtombncedfleljaaGreat
namespace Go.Proofs.YtombncedfleljaaGreat
open Go.RowKit

set_option maxRecDepth 100000 in
set_option maxHeartbeats 2000000 in
theorem same_any (va vb : Value) (l m : List (List Int × Int)) (w : World) (hs : Sn w 33 va l.length (l.flatMap entP)) (hok : ∀ p ∈ l, EntOk p) (hs' : Sn w 33 vb m.length (m.flatMap entP)) (hok' : ∀ p ∈ m, EntOk p) (hl : l.length ≤ 1000) (hm : m.length ≤ 1000) :
    Calls Tryz.prog 20 #[va, vb] w fun e w' => e = .returned (.bool (decide (l = m))) ∧ Below w.heap.size w w' := by
  obtain ⟨A, cap, rfl, hcap, _, _⟩ := id hs
  obtain ⟨A', cap', rfl, hcap', _, _⟩ := id hs'
  have HS := Lib.hid hs
  have HOK := Lib.hid hok
  have HS' := Lib.hid hs'
  have HOK' := Lib.hid hok'
  clear hs hok hs' hok'
  rcases Bool.eq_false_or_eq_true ((l.length : Int) != m.length) with d1 | d1
  · go_enter Tryz.func20, Tryz.ntmps20
    go_wp2_with fail
    go_ret
    have hne : l ≠ m := fun e => by subst e; simp at d1
    exact ⟨by simp [hne], Below.refl _ _⟩
  · have hlm : l.length = m.length := by simp at d1; omega
    have HLM := Lib.hid hlm
    clear hlm
    go_enter Tryz.func20, Tryz.ntmps20
    go_wp2_with fail
    go_loopw [5] (fun i wr => ∃ k : Nat, k ≤ l.length ∧ i = .int .i64 k ∧ Hid (l.take k = m.take k) ∧ Below w.heap.size w wr) (fun i _ => l.length - (intOf i).toNat)
    case atStart => exact ⟨0, Nat.zero_le _, rfl, Lib.hid rfl, Below.refl _ _⟩
    case round =>
      obtain ⟨k, hk, rfl, heqk, hb⟩ := hrel
      by_cases hlt : k < l.length
      · have hlt' : k < m.length := by rw [← HLM.out]; exact hlt
        obtain ⟨b, off, rfl, hr⟩ := at_elem entP EntOk 33 entP_length (HS.out.below hb) HOK.out k hlt
        obtain ⟨b', off', rfl, hr'⟩ := at_elem entP EntOk 33 entP_length (HS'.out.below hb) HOK'.out k hlt'
        have hr : wr.rangeAt b (off + k * 33) (entP l[k]) := hr
        have hr' : wr.rangeAt b' (off' + k * 33) (entP m[k]) := hr'
        have la := entP_length l[k] (HOK.out _ (List.getElem_mem hlt))
        have lb := entP_length m[k] (HOK'.out _ (List.getElem_mem hlt'))
        have heq := run_eqE (HOK.out l[k] (List.getElem_mem hlt)) (HOK'.out m[k] (List.getElem_mem hlt'))
        have hud := Tryz.underlying35
        have hua : (Tryz.prog.info? 35).map (·.size) = some (entP l[k]).length := by rw [la]; kernel_rfl
        have hub : (Tryz.prog.info? 35).map (·.size) = some (entP m[k]).length := by rw [lb]; kernel_rfl
        have hi0 : (0 : Int) ≤ k := by omega
        have hi1 : (k : Int) < l.length := by omega
        have hi2 : (k : Int) < m.length := by omega
        go_wp2_with fail
        rcases Bool.eq_false_or_eq_true (decide (l[k] = m[k])) with t1 | t1
        all_goals
          rw [t1] at heq
          refine wp_region_quiet_lit (by kernel_rfl) (by kernel_rfl) ?_
          repeat (first
            | (refine qLoad 35 (.tmp 19) rfl rfl rfl hr hud rfl hua ?_; simp only [Act.put, List.setIfInBounds_toArray, List.set_cons_zero, List.set_cons_succ])
            | (refine qLoad 35 (.tmp 23) rfl rfl rfl hr' hud rfl hub ?_; simp only [Act.put, List.setIfInBounds_toArray, List.set_cons_zero, List.set_cons_succ])
            | quiet_step (fail))
          refine wpQuiet_nil ?_
          intro w2 hw2
          obtain ⟨nq, hw3⟩ := hw2
          subst hw3
        · go_wp2_with fail
          refine ⟨⟨k + 1, by omega, by go_num, Lib.hid ?_, bdrewN hb _⟩, by simp [intOf]; omega⟩
          rw [List.take_succ_eq_append_getElem hlt, List.take_succ_eq_append_getElem hlt', heqk.out, of_decide_eq_true t1]
        · go_wp2_with fail
          go_ret
          have hne : l ≠ m := fun e => of_decide_eq_false t1 (by subst e; rfl)
          exact ⟨by simp [hne], bdrewN hb _⟩
      · obtain rfl : k = l.length := by omega
        have hall : l = m := by
          have h := heqk.out
          rw [List.take_length, HLM.out, List.take_length] at h
          exact h
        go_wp2_with fail
        go_ret
        exact ⟨by simp [hall], hb⟩
end Go.Proofs.YtombncedfleljaaGreat
namespace Go.Proofs.YtombncedfleljaaGreat
open Go.RowKit
attribute [local irreducible] wpQuiet wpAnyH
set_option linter.unusedSimpArgs false

def e15 : Ent2 := numE 1 5
theorem e15_ok : EntOk e15 := numE_ok 1 5 ⟨by decide, by decide⟩
theorem e15_right : rightE e15 = true := by
  unfold rightE e15 numE
  decide
/-- A new disk is opened. -/
theorem open_new (n : Nat) (hn : 2 ≤ n) : ∃ r', (3 ≤ r' ∧ r' ≤ 6) ∧ openR (newD n) = (none, qD ((List.replicate n zsec).set 0 (rec 1 toll)) [] 3 r', some (⟨0, 0, 1, 0, false⟩, [])) := by
  obtain ⟨r', hr1, hr2, hw⟩ := wsD_q (sec := List.replicate n zsec) (st := 1) (r := 1) (a := 0) (by decide) (by simp; omega) (rec 1 toll)
  refine ⟨r', ⟨by omega, by omega⟩, ?_⟩
  have hf := fresh_new n hn
  have hlen : (newD n).sec.length = n := List.length_replicate
  unfold openR
  rw [if_neg (by omega), newD_q, syncA_q, syncS_q]
  show openS (qD (List.replicate n zsec) [] 1 1) = _
  have hl2 : (qD (List.replicate n zsec) [] 1 1).sec.length = n := List.length_replicate
  have hof : (openF (qD (List.replicate n zsec) [] 1 1)).1 = none := openF_none (fun s hs => by rw [hl2]; exact hf.scan s hs)
  have hla : lastN (qD (List.replicate n zsec) [] 1 1) (qD (List.replicate n zsec) [] 1 1).sec.length = 0 := by
    have := lastN_le (d := qD (List.replicate n zsec) [] 1 1) rfl rfl 0 hf.tag _ (Nat.le_refl _)
    omega
  unfold openS
  rw [hof, hla]
  simp only [show ¬ ((0 : Nat) = 4294967295) by omega, if_false, Nat.zero_add]
  rw [wsA_q (by decide) (by simp; omega), hw]
  rfl
theorem sa_new (n : Nat) (hn : 2 ≤ n) : SA (fun _ _ => True) n 1 (openR (newD n)).2.1 ⟨0, 0, 1, 0, false⟩ [] := by
  obtain ⟨r', _, e⟩ := open_new n hn
  rw [e]
  have hf := fresh_new n hn
  have hpos : 0 < (List.replicate n zsec).length := by simp; omega
  have hl : (List.replicate n zsec).length = n := List.length_replicate
  refine ⟨rfl, rfl, by show ((List.replicate n zsec).set 0 _).length = n; rw [List.length_set, hl], ?_, rfl, trivial, fun s hs => ?_, Nat.le_refl _⟩
  · exact live_first hf (List.length_set ..) (by show ((List.replicate n zsec).set 0 (rec 1 toll)).getD 0 [] = _; rw [getD_set _ _ _ _ hpos, if_pos rfl]) (fun a h1 _ => by show ((List.replicate n zsec).set 0 (rec 1 toll)).getD a [] = _; rw [getD_set _ _ _ _ hpos, if_neg (by omega)])
  · show tagS s ≤ max 0 1
    rcases List.mem_or_eq_of_mem_set hs with h1 | h1
    · have := hf.tag s h1; omega
    · rw [h1, tag_head 1 (by omega)]; omega
/-- An append to a disk without plans. -/
theorem app_q {sec : List (List Int)} {st r h : Nat} {L : LogD} {q : Ent2} (hb : L.brk = false) (hr : rightE q = true) (hs : L.side < 2) (hc : L.cnt + 1 < h) (hl : h + h ≤ sec.length) :
    ∃ sec' r', r' ≤ max r (st + 2) + 1 ∧ st + 2 ≤ r' ∧ sec'.length = sec.length ∧ appA (qD sec [] st r) h L q = none ∧ appD (qD sec [] st r) h L q = qD sec' [] (st + 2) r' ∧ appL (qD sec [] st r) h L q = { L with cnt := L.cnt + 1 } := by
  have hsd := sides (h := h) hs
  have e0 : ∀ {α : Type} (x y : α), (if L.brk = true then x else y) = y := fun x y => by rw [hb]; rfl
  rcases put_vals (qD sec [] st r) (sFrom h L.side) h ((L.cnt + 1 : Nat) : Int) L.gen q (by omega) with ⟨h1, _⟩ | ⟨_, h1, _⟩ | ⟨_, _, e1, e2⟩
  · rw [room_half (by omega)] at h1; omega
  · rw [hr] at h1; cases h1
  · obtain ⟨p, hp⟩ : ∃ p : Nat, (sFrom h L.side : Int) + ((L.cnt + 1 : Nat) : Int) = (p : Int) := ⟨sFrom h L.side + (L.cnt + 1), by omega⟩
    have hpl : (p : Int) < sec.length := by omega
    rw [hp] at e1 e2
    obtain ⟨r', h1, h2, hw⟩ := wsD_q (sec := sec) (st := st) (r := r) (a := (p : Int)) (by omega) hpl (entRec L.gen q)
    rw [wsA_q (by omega) hpl] at e1
    rw [hw] at e2
    refine ⟨sec.set (p : Int).toNat (entRec L.gen q), r', h2, h1, ?_, ?_, ?_, ?_⟩
    · exact List.length_set ..
    · unfold appA; rw [e0, e1]
    · unfold appD; rw [e0, e2]
    · unfold appL; rw [e0, e1]; rfl
theorem open_calm {d : DiskD} {s g : Nat} {es : List Ent2} (hn : 2 ≤ d.sec.length) (hs : syncA d = none) (hl : Live (syncS d).sec ((syncS d).sec.length / 2) s g es) : openR d = (none, syncS d, some (⟨s, lastN (syncS d) (syncS d).sec.length, g, es.length, false⟩, es)) := by
  unfold openR
  rw [if_neg (by omega), hs]
  exact openS_some (openF_live hl)
theorem awake19_vals : ∃ (d1 d2 d3 : DiskD) (la : Nat), openR (newD 8) = (none, d1, some (⟨0, 0, 1, 0, false⟩, [])) ∧ d1.room ≤ 10 ∧ appA d1 4 ⟨0, 0, 1, 0, false⟩ e15 = none ∧ appD d1 4 ⟨0, 0, 1, 0, false⟩ e15 = d2 ∧ appL d1 4 ⟨0, 0, 1, 0, false⟩ e15 = ⟨0, 0, 1, 1, false⟩ ∧ d2.room ≤ 20 ∧ d1.sec.length = 8 ∧ d2.sec.length = 8 ∧ openR d2 = (none, d3, some (⟨0, la, 1, 1, false⟩, [e15])) := by
  obtain ⟨r1, hr1, h1⟩ := open_new 8 (by omega)
  have hsa := sa_new 8 (by omega)
  rw [h1] at hsa
  obtain ⟨sec2, r2, b1, b2, b3, b4, b5, b6⟩ := app_q (sec := (List.replicate 8 zsec).set 0 (rec 1 toll)) (st := 3) (r := r1) (h := 4) (L := ⟨0, 0, 1, 0, false⟩) (q := e15) rfl e15_right (by show 0 < 2; omega) (by show 0 + 1 < 4; omega) (by rw [List.length_set, List.length_replicate]; omega)
  have hl8 : ((List.replicate 8 zsec).set 0 (rec 1 toll)).length = 8 := by rw [List.length_set, List.length_replicate]
  have hk : DOk (qD ((List.replicate 8 zsec).set 0 (rec 1 toll)) [] 3 r1) := by
    refine ⟨fun s hs => ?_, fun p hp => (by cases hp), by show ((List.replicate 8 zsec).set 0 (rec 1 toll)).length ≤ 4096; omega, Nat.zero_le _, by show 3 ≤ r1; omega, by show r1 ≤ 100000; omega, fun k cs h => by cases h⟩
    rcases List.mem_or_eq_of_mem_set hs with h1 | h1
    · rw [(List.mem_replicate.1 h1).2]; exact zsec_sec
    · rw [h1]; exact rec_sec 1
  rcases sa_append (P' := fun _ _ => True) hsa hk (by omega) e15_ok trivial trivial with ⟨_, k2, _⟩ | ⟨x, k1, _⟩ | ⟨x, k1, _⟩
  · rw [show (8 / 2 : Nat) = 4 from rfl, b5, b6] at k2
    have hlv := k2.lv
    have hop := open_calm (d := qD sec2 [] 5 r2) (s := 0) (g := 1) (es := [e15]) (by show 2 ≤ sec2.length; omega) (syncA_q _ _ _ _) (by
      rw [syncS_q]
      show Live sec2 (sec2.length / 2) 0 1 [e15]
      rw [b3, hl8]
      exact hlv)
    exact ⟨_, _, _, _, h1, by show r1 ≤ 10; omega, b4, b5, b6, by show r2 ≤ 20; omega, hl8, b3.trans hl8, hop⟩
  · rw [show (8 / 2 : Nat) = 4 from rfl, b4] at k1; cases k1
  · rw [show (8 / 2 : Nat) = 4 from rfl, b4] at k1; cases k1
theorem lit1L {P : Program} {ops : Array Oper} {rest : List Oper} {o : Oper} {a : Act} {w : World} {Q : Exit → Act → World → Prop} {t e s bytes : Nat} (T : SlT P t e s bytes) (x : Operand) (ho : o.op = .buildSlice t 1 #[(0, x)]) (hw : Region.wanted o (yielded ops a.tmps) = true)
    {cs : List Value} (hx : a.eval x = .agg cs.toArray) (hl : cs.length = s) (hs1 : s ≤ 1000)
    (h : wpList P ops Q rest (a.put o.dst (.slice (some ⟨w.heap.size, 0, none⟩) 1 1)) (w.alloc (.cells cs.toArray e))) : wpList P ops Q (o :: rest) a w :=
  wpList_step fun K hK => by
    rw [if_pos hw]
    unfold Oper.wp
    have hrun : (execOp a.eval o).run P w = .ok (.value (.slice (some ⟨w.heap.size, 0, none⟩) 1 1)) (w.alloc (.cells cs.toArray e)) := by
      have hrun := run_lit1M T cs hl hs1 w
      unfold execOp
      simp only [ho, Sem.run_bind, List.map_toArray, List.map_cons, List.map_nil, hx, hrun, Result.andThen_ok]
      rfl
    rw [hrun, Oper.upon_value]
    exact hK _ _ h
theorem St.log {w0 w w' : World} {m m' : DiskM} {d d' : DiskD} {gl : Nat} (h : St w0 w m d) (hk : DK w' m' d') (ht : LT gl w m w' m') (hg : w0.heap.size ≤ gl) : St w0 w' m' d' :=
  ⟨hk, ht.le h.ft h.bel.size, h.bel.trans (ht.below h.ft hg h.bel.size)⟩
theorem eq_nilT : ∀ w, (binOp .eql 42 .nilIface .nilIface).run Tryz.prog w = .ok (.bool true) w := fun w => by kernel_rfl
end Go.Proofs.YtombncedfleljaaGreat
