/- The index: put, get, has, count. -/
import Derived.Test.YtlhehnghplchfaaDMap
import Derived.Test.YtlhehnghplchfaaArms
import Derived.Test.YtlhehnghplchfaaBlk
import Derived.Deep.RegionHeld3
namespace Go.Proofs.Ytlhehnghplchfaa
open Go.RowKit

def entC (d : List Int) (t : Int) : List Value := u8s d ++ [.int .i64 t]
theorem entC_length {d : List Int} (h : DigOk d) (t : Int) : (entC d t).length = 33 := by simp [entC, u8s, h.len]
theorem entC_one (d : List Int) (t : Int) : (entC d t).toArray.all (·.oneCell') = true := by
  refine all_oneCell_toArray fun v hv => ?_
  simp [entC, u8s] at hv
  rcases hv with ⟨_, _, rfl⟩ | rfl <;> rfl
theorem u8s_one (d : List Int) : (u8s d).toArray.all (·.oneCell') = true := by
  refine all_oneCell_toArray fun v hv => ?_
  simp [u8s] at hv
  obtain ⟨_, _, rfl⟩ := hv
  rfl
/-- All blocks but b are as they were. -/
structure Off (b : Nat) (w w' : World) : Prop where
  os : w'.os = w.os
  tape : w'.tape = w.tape
  output : w'.output = w.output
  size : w.heap.size ≤ w'.heap.size
  block : ∀ k, k < w.heap.size → k ≠ b → w'.heap[k]? = w.heap[k]?
theorem Off.of_below {b : Nat} {w w' : World} (h : Below w.heap.size w w') : Off b w w' := ⟨h.os, h.tape, h.output, h.size, fun k hk _ => h.block k hk⟩
theorem Off.refl (b : Nat) (w : World) : Off b w w := ⟨rfl, rfl, rfl, Nat.le_refl _, fun _ _ _ => rfl⟩
theorem Off.trans {b : Nat} {x y z : World} (h : Off b x y) (k : Off b y z) : Off b x z :=
  ⟨k.os.trans h.os, k.tape.trans h.tape, k.output.trans h.output, Nat.le_trans h.size k.size, fun i hi hne => (k.block i (Nat.lt_of_lt_of_le hi h.size) hne).trans (h.block i hi hne)⟩
theorem Off.of_grown {b : Nat} {w w' : World} (h : w.grownBy w' (some b)) : Off b w w' := ⟨h.os, h.tape, h.output, h.size, fun k hk hne => h.block k hk (fun e => hne (Option.some.inj e))⟩
theorem Off.cell {b : Nat} {w w' : World} (h : Off b w w') {a : Addr} {v : Value} (hc : w.cell? a = some v) (hne : a.block ≠ b) : w'.cell? a = some v := by
  have := h.block a.block (cell_lt hc) hne
  unfold World.cell? at hc ⊢
  rw [this]; exact hc
theorem Off.below {b B : Nat} {w w' : World} (h : Off b w w') (hB : B ≤ b) (hs : B ≤ w.heap.size) : Below B w w' := ⟨h.os, h.tape, h.output, h.size, fun k hk => h.block k (by omega) (by omega)⟩
theorem Off.blk {b : Nat} {w w' : World} (h : Off b w w') {g : Nat} {t : TypeId} {cs : Array Value} (hB : Blk w g t cs) (hne : g ≠ b) : Blk w' g t cs := (h.block g hB.lt hne).trans hB

/-- The index at block g, whose map is block b. -/
def IX (w : World) (g b n : Nat) (f : List Int → Option Int) (c : Nat) : Prop := w.cell? ⟨g, 0, none⟩ = some (.map (some b)) ∧ g ≠ b ∧ DM w b n f c
theorem IX.keep {w w' : World} {g b n c : Nat} {f : List Int → Option Int} (h : IX w g b n f c) (hb : Below w.heap.size w w') : IX w' g b n f c := ⟨Below.cell' hb h.1, h.2.1, h.2.2.keep hb⟩
theorem IX.mono {w : World} {g b n m c : Nat} {f : List Int → Option Int} (h : IX w g b n f c) (hm : n ≤ m) : IX w g b m f c := ⟨h.1, h.2.1, h.2.2.mono hm⟩

def old? (f : List Int → Option Int) (d : List Int) (t : Int) : Bool := (f d).isSome && decide (t ≤ (f d).getD 0)
def putF (f : List Int → Option Int) (d : List Int) (t : Int) : List Int → Option Int := if old? f d t then f else upd f d t
def putC (f : List Int → Option Int) (d : List Int) (c : Nat) : Nat := if (f d).isSome then c else c + 1

set_option maxHeartbeats 1000000 in
theorem put_any (g b n c : Nat) (f : List Int → Option Int) (d : List Int) (t : Int) (w : World) (h : IX w g b n f c) (hd : DigOk d) (ht : isI64 t) (hn : n < maxLen) :
    Calls Try.prog 22 #[.pointer (some ⟨g, 0, none⟩), .agg (entC d t).toArray] w fun e w' => e = .returned (.bool (!old? f d t)) ∧ IX w' g b (n + 1) (putF f d t) (putC f d c) ∧ Off b w w' := by
  go_enter Try.func22, Try.ntmps22
  have hlen := entC_length hd t
  have h32 : (u8s d).length = 32 := by simp [u8s, hd.len]
  obtain ⟨hg, hgb, hm⟩ := h
  have hglt := cell_lt hg
  have hblt := hm.lt
  have hbA : Below w.heap.size w (w.alloc (.cells (entC d t).toArray 31)) := (by repeat (first | exact Below.refl _ _ | assumption | refine bdrewN ?_ _ | refine Below.setCell ?_ (by first | exact Nat.le_refl _ | assumption | omega | (simp <;> omega)) _ | refine Below.alloc ?_ (by first | exact Nat.le_refl _ | assumption | omega | (simp <;> omega)) _))
  have hB := Blk.new w 31 (entC d t).toArray
  have hsA : (w.alloc (.cells (entC d t).toArray 31)).heap.size = w.heap.size + 1 := by simp
  have hg1 := Below.cell' hbA hg
  have hm1 := hm.keep hbA
  have hh1 := hbA.block b hblt
  go_wp2_with fail
  obtain ⟨w1, hw1⟩ : ∃ w1, w1 = w.alloc (.cells (entC d t).toArray 31) := ⟨_, rfl⟩
  rw [← hw1] at hbA hB hg1 hm1 hh1 hsA ⊢
  clear hw1
  have hrd : w1.rangeAt w.heap.size 0 (u8s d) := fun j u hj => by
    rw [Nat.zero_add, hB.cell j]
    have hlt := (List.getElem?_eq_some_iff.1 hj).1
    simp only [List.getElem?_toArray, entC]
    rw [List.getElem?_append_left hlt]
    exact hj
  have htc : w1.cell? ⟨w.heap.size, 32, none⟩ = some (.int .i64 t) := by
    rw [hB.cell 32]
    simp only [List.getElem?_toArray, entC]
    rw [List.getElem?_append_right (by omega), h32]
    rfl
  have hlook := fun (w' : World) (hw' : w'.heap[b]? = w.heap[b]?) => (hm.of_block hw').look (tM := 53) Try.underlying53 hd
  have hud := Try.underlying26
  have hui : (Try.prog.info? 26).map (·.size) = some (u8s d).length := by rw [h32]; kernel_rfl
  go_region_held3 (fun w' => w'.cell? ⟨g, 0, none⟩ = some (.map (some b)) ∧ w'.rangeAt w.heap.size 0 (u8s d) ∧ w'.cell? ⟨w.heap.size, 32, none⟩ = some (.int .i64 t) ∧ w'.heap[b]? = w.heap[b]? ∧ Below w1.heap.size w1 w')
    (first
      | (refine ⟨by assumption, by assumption, by assumption, by assumption, (Below.refl _ _).drew⟩)
      | (go_split_ands; exact ⟨by assumption, by assumption, by assumption, by assumption, by assumption⟩)
      | go_keep)
    (fail)
  have hm2 : DM w1.drew b n f c := hm1.of_block rfl
  have hb2 : Below w.heap.size w w1.drew := hbA.drew
  have hg2 : w1.drew.cell? ⟨g, 0, none⟩ = some (.map (some b)) := hg1
  have htc2 : w1.drew.cell? ⟨w.heap.size, 32, none⟩ = some (.int .i64 t) := htc
  have hrd2 : w1.drew.rangeAt w.heap.size 0 (u8s d) := hrd
  obtain ⟨w2, hw2⟩ : ∃ w2, w2 = w1.drew := ⟨_, rfl⟩
  rw [← hw2] at hm2 hb2 hg2 htc2 hrd2 ⊢
  rename_i hH
  clear hlook hH hw2 hrd htc hB hg1 hm1 hh1 hbA hsA
  rcases Bool.eq_false_or_eq_true (old? f d t) with hold | hold
  · have ho := hold
    unfold old? at ho
    obtain ⟨t1, t2⟩ := (Bool.and_eq_true _ _).mp ho
    have hpf : putF f d t = f := by unfold putF; rw [if_pos hold]
    have hpc : putC f d c = c := by unfold putC; rw [if_pos t1]
    have HP := Lib.hid hpf
    have HC := Lib.hid hpc
    have HO := Lib.hid hold
    clear hpf hpc hold ho hui hud
    go_wp2_with fail
    go_ret
    rw [HP.out, HC.out, HO.out]
    exact ⟨rfl, ⟨hg2, hgb, hm2.mono (Nat.le_succ n)⟩, Off.of_below hb2⟩
  · have hpf : putF f d t = upd f d t := by unfold putF; rw [if_neg (by rw [hold]; simp)]
    obtain ⟨w3, hrun, hm3, hg3⟩ := (show DM w2.drew b n f c from hm2.of_block rfl).put_run (tM := 53) Try.underlying53 hd ht hn
    have hoff : Off b w2.drew w3 := Off.of_grown hg3
    have hb2d : Below w.heap.size w w2.drew := hb2.drew
    have k1 : w3.cell? ⟨g, 0, none⟩ = some (.map (some b)) := hoff.cell (show w2.drew.cell? ⟨g, 0, none⟩ = some (.map (some b)) from hg2) hgb
    have k2 : w3.cell? ⟨w.heap.size, 32, none⟩ = some (.int .i64 t) := hoff.cell (show w2.drew.cell? ⟨w.heap.size, 32, none⟩ = some (.int .i64 t) from htc2) (by show w.heap.size ≠ b; omega)
    have k3 : w3.rangeAt w.heap.size 0 (u8s d) := fun j u hj => hoff.cell (show w2.drew.cell? ⟨w.heap.size, 0 + j, none⟩ = some u from hrd2 j u hj) (by show w.heap.size ≠ b; omega)
    have HP := Lib.hid hpf
    have HO := Lib.hid hold
    have hcase : (f d).isSome = false ∨ (f d).isSome = true ∧ decide (t ≤ (f d).getD 0) = false := by
      unfold old? at hold
      cases h : (f d).isSome
      · exact .inl rfl
      · rw [h] at hold; exact .inr ⟨rfl, by simpa using hold⟩
    have HM := Lib.hid hm3
    have HF := Lib.hid ((Off.of_below hb2d).trans hoff)
    clear hpf hold hm3 hg3 hoff hb2d hm2 hb2
    rcases hcase with t1 | ⟨t1, t2⟩
    all_goals
      go_wp2_with fail
      go_region_held3 (fun w' => w'.cell? ⟨g, 0, none⟩ = some (.map (some b)) ∧ w'.rangeAt w.heap.size 0 (u8s d) ∧ w'.cell? ⟨w.heap.size, 32, none⟩ = some (.int .i64 t))
        (first
          | (refine ⟨by assumption, by assumption, by assumption⟩)
          | (go_split_ands; exact ⟨by assumption, by assumption, by assumption⟩)
          | go_keep)
        (fail)
      go_wp2_with fail
      go_ret
      rw [HP.out, HO.out]
      exact ⟨rfl, ⟨k1, hgb, HM.out⟩, HF.out⟩
end Go.Proofs.Ytlhehnghplchfaa
