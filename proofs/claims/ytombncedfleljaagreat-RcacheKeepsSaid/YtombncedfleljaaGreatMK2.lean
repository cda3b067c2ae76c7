/- Parts: The index: put, get, has, count. | The index: get, has, count, and what a nil index answers. | The index: Drop. | The order of entries: cmp.Compare, bytes.Compare, index.Compare. | A slice of structs that came in, read element by element. No program is named here. | The index: New, of any entries. | The order of entries: plain laws. | What an index holds does not hang on the order; sorted lists with the same members are equal. | The count of an index is the number of its digests. | '==' of entries and of digests. | A struct of many cells, loaded inside a region that draws its order (the quiet walk). | Cells written one behind another. No program is named here. | What a composite of a digest and an expiry holds. | append onto a row of the call's own, inside a region that draws its order. -/
import Derived.Test.YtombncedfleljaaGreatMK1
import Derived.Deep.RegionHeld3
import Derived.Lib.Bytealg
import Derived.Lib.BytesEntry
import Derived.Deep.Slices
import Derived.OpenShut
import Derived.DeepKeys
import Derived.Deep.QuietTactic
import Derived.Laws.IdiomCopy
import Derived.Deep.AppendLies
namespace Go.Proofs.YtombncedfleljaaGreat
set_option maxRecDepth 100000
open Go.RowKit

/-- The index at block g, whose map is block b. -/
def IX (w : World) (g b n : Nat) (f : List Int → Option Int) (c : Nat) : Prop := w.cell? ⟨g, 0, none⟩ = some (.map (some b)) ∧ g ≠ b ∧ DM w b n f c
theorem IX.keep {w w' : World} {g b n c : Nat} {f : List Int → Option Int} (h : IX w g b n f c) (hb : Below w.heap.size w w') : IX w' g b n f c := ⟨Below.cell' hb h.1, h.2.1, h.2.2.keep hb⟩
theorem IX.mono {w : World} {g b n m c : Nat} {f : List Int → Option Int} (h : IX w g b n f c) (hm : n ≤ m) : IX w g b m f c := ⟨h.1, h.2.1, h.2.2.mono hm⟩

def old? (f : List Int → Option Int) (d : List Int) (t : Int) : Bool := (f d).isSome && decide (t ≤ (f d).getD 0)
def putF (f : List Int → Option Int) (d : List Int) (t : Int) : List Int → Option Int := if old? f d t then f else upd f d t
def putC (f : List Int → Option Int) (d : List Int) (c : Nat) : Nat := if (f d).isSome then c else c + 1

set_option maxHeartbeats 1000000 in
theorem put_any (g b n c : Nat) (f : List Int → Option Int) (d : List Int) (t : Int) (w : World) (h : IX w g b n f c) (hd : DigOk d) (ht : isI64 t) (hn : n < maxLen) :
    Calls Tryz.prog 34 #[.pointer (some ⟨g, 0, none⟩), .agg (entC d t).toArray] w fun e w' => e = .returned (.bool (!old? f d t)) ∧ IX w' g b (n + 1) (putF f d t) (putC f d c) ∧ Off b w w' := by
  go_enter Tryz.func34, Tryz.ntmps34
  have hlen := entC_length hd t
  have h32 : (u8s d).length = 32 := by simp [u8s, hd.len]
  obtain ⟨hg, hgb, hm⟩ := h
  have hglt := cell_lt hg
  have hblt := hm.lt
  have hbA : Below w.heap.size w (w.alloc (.cells (entC d t).toArray 35)) := (by repeat (first | exact Below.refl _ _ | assumption | refine bdrewN ?_ _ | refine Below.setCell ?_ (by first | exact Nat.le_refl _ | assumption | omega | (simp <;> omega)) _ | refine Below.alloc ?_ (by first | exact Nat.le_refl _ | assumption | omega | (simp <;> omega)) _))
  have hB := Blk.new w 35 (entC d t).toArray
  have hsA : (w.alloc (.cells (entC d t).toArray 35)).heap.size = w.heap.size + 1 := by simp
  have hg1 := Below.cell' hbA hg
  have hm1 := hm.keep hbA
  have hh1 := hbA.block b hblt
  go_wp2_with fail
  obtain ⟨w1, hw1⟩ : ∃ w1, w1 = w.alloc (.cells (entC d t).toArray 35) := ⟨_, rfl⟩
  rw [← hw1] at hbA hB hg1 hm1 hh1 hsA ⊢
  clear hw1
  have hrd : w1.rangeAt w.heap.size 0 (u8s d) := fun j u hj => by
    rw [Nat.zero_add, hB.cell j]
    have hlt := (List.getElem?_eq_some_iff.1 hj).1
    simp only [List.getElem?_toArray, entC]
    rw [List.getElem?_append_left hlt]
    exact hj
  have htc : w1.cell? ⟨w.heap.size, 32, none⟩ = some (.int .i64 t) := by
    rw [hB.cell 32]
    simp only [List.getElem?_toArray, entC]
    rw [List.getElem?_append_right (by omega), h32]
    rfl
  have hlook := fun (w' : World) (hw' : w'.heap[b]? = w.heap[b]?) => (hm.of_block hw').look (tM := 114) Tryz.underlying114 hd
  have hud := Tryz.underlying33
  have hui : (Tryz.prog.info? 33).map (·.size) = some (u8s d).length := by rw [h32]; kernel_rfl
  go_region_held3 (fun w' => w'.cell? ⟨g, 0, none⟩ = some (.map (some b)) ∧ w'.rangeAt w.heap.size 0 (u8s d) ∧ w'.cell? ⟨w.heap.size, 32, none⟩ = some (.int .i64 t) ∧ w'.heap[b]? = w.heap[b]? ∧ Below w1.heap.size w1 w')
    (first
      | (refine ⟨by assumption, by assumption, by assumption, by assumption, (Below.refl _ _).drew⟩)
      | (go_split_ands; exact ⟨by assumption, by assumption, by assumption, by assumption, by assumption⟩)
      | go_keep)
    (fail)
  have hm2 : DM w1.drew b n f c := hm1.of_block rfl
  have hb2 : Below w.heap.size w w1.drew := hbA.drew
  have hg2 : w1.drew.cell? ⟨g, 0, none⟩ = some (.map (some b)) := hg1
  have htc2 : w1.drew.cell? ⟨w.heap.size, 32, none⟩ = some (.int .i64 t) := htc
  have hrd2 : w1.drew.rangeAt w.heap.size 0 (u8s d) := hrd
  obtain ⟨w2, hw2⟩ : ∃ w2, w2 = w1.drew := ⟨_, rfl⟩
  rw [← hw2] at hm2 hb2 hg2 htc2 hrd2 ⊢
  rename_i hH
  clear hlook hH hw2 hrd htc hB hg1 hm1 hh1 hbA hsA
  rcases Bool.eq_false_or_eq_true (old? f d t) with hold | hold
  · have ho := hold
    unfold old? at ho
    obtain ⟨t1, t2⟩ := (Bool.and_eq_true _ _).mp ho
    have hpf : putF f d t = f := by unfold putF; rw [if_pos hold]
    have hpc : putC f d c = c := by unfold putC; rw [if_pos t1]
    have HP := Lib.hid hpf
    have HC := Lib.hid hpc
    have HO := Lib.hid hold
    clear hpf hpc hold ho hui hud
    go_wp2_with fail
    go_ret
    rw [HP.out, HC.out, HO.out]
    exact ⟨rfl, ⟨hg2, hgb, hm2.mono (Nat.le_succ n)⟩, Off.of_below hb2⟩
  · have hpf : putF f d t = upd f d t := by unfold putF; rw [if_neg (by rw [hold]; simp)]
    obtain ⟨w3, hrun, hm3, hg3⟩ := (show DM w2.drew b n f c from hm2.of_block rfl).put_run (tM := 114) Tryz.underlying114 hd ht hn
    have hoff : Off b w2.drew w3 := Off.of_grown hg3
    have hb2d : Below w.heap.size w w2.drew := hb2.drew
    have k1 : w3.cell? ⟨g, 0, none⟩ = some (.map (some b)) := hoff.cell (show w2.drew.cell? ⟨g, 0, none⟩ = some (.map (some b)) from hg2) hgb
    have k2 : w3.cell? ⟨w.heap.size, 32, none⟩ = some (.int .i64 t) := hoff.cell (show w2.drew.cell? ⟨w.heap.size, 32, none⟩ = some (.int .i64 t) from htc2) (by show w.heap.size ≠ b; omega)
    have k3 : w3.rangeAt w.heap.size 0 (u8s d) := fun j u hj => hoff.cell (show w2.drew.cell? ⟨w.heap.size, 0 + j, none⟩ = some u from hrd2 j u hj) (by show w.heap.size ≠ b; omega)
    have HP := Lib.hid hpf
    have HO := Lib.hid hold
    have hcase : (f d).isSome = false ∨ (f d).isSome = true ∧ decide (t ≤ (f d).getD 0) = false := by
      unfold old? at hold
      cases h : (f d).isSome
      · exact .inl rfl
      · rw [h] at hold; exact .inr ⟨rfl, by simpa using hold⟩
    have HM := Lib.hid hm3
    have HF := Lib.hid ((Off.of_below hb2d).trans hoff)
    clear hpf hold hm3 hg3 hoff hb2d hm2 hb2
    rcases hcase with t1 | ⟨t1, t2⟩
    all_goals
      go_wp2_with fail
      go_region_held3 (fun w' => w'.cell? ⟨g, 0, none⟩ = some (.map (some b)) ∧ w'.rangeAt w.heap.size 0 (u8s d) ∧ w'.cell? ⟨w.heap.size, 32, none⟩ = some (.int .i64 t))
        (first
          | (refine ⟨by assumption, by assumption, by assumption⟩)
          | (go_split_ands; exact ⟨by assumption, by assumption, by assumption⟩)
          | go_keep)
        (fail)
      go_wp2_with fail
      go_ret
      rw [HP.out, HO.out]
      exact ⟨rfl, ⟨k1, hgb, HM.out⟩, HF.out⟩
end Go.Proofs.YtombncedfleljaaGreat
namespace Go.Proofs.YtombncedfleljaaGreat
set_option maxRecDepth 100000
open Go.RowKit

set_option maxHeartbeats 1000000 in
theorem get_any (g b n c : Nat) (f : List Int → Option Int) (d : List Int) (w : World) (h : IX w g b n f c) (hd : DigOk d) :
    Calls Tryz.prog 52 #[.pointer (some ⟨g, 0, none⟩), .agg (u8s d).toArray] w fun e w' => e = .returned (.tuple #[.int .i64 ((f d).getD 0), .bool (f d).isSome]) ∧ Below w.heap.size w w' := by
  obtain ⟨hg, hgb, hm⟩ := h
  have hlook := fun (w' : World) (hw' : w'.heap[b]? = w.heap[b]?) => (hm.of_block hw').look (tM := 114) Tryz.underlying114 hd
  have hbA : Below w.heap.size w (w.alloc (.cells (u8s d).toArray 33)) := (by repeat (first | exact Below.refl _ _ | assumption | refine bdrewN ?_ _ | refine Below.setCell ?_ (by first | exact Nat.le_refl _ | assumption | omega | (simp <;> omega)) _ | refine Below.alloc ?_ (by first | exact Nat.le_refl _ | assumption | omega | (simp <;> omega)) _))
  have hrd := (Blk.new w 33 (u8s d).toArray).range
  have h32 : (u8s d).length = 32 := by simp [u8s, hd.len]
  have hg1 := Below.cell' hbA hg
  have hh1 := hbA.block b hm.lt
  rw [List.toList_toArray] at hrd
  go_enter Tryz.func52, Tryz.ntmps52
  go_wp2_with (refine ld 33 _ rfl rfl rfl hrd Tryz.underlying33 rfl (by rw [h32]; kernel_rfl) ?_)
  obtain ⟨w1, hw1⟩ : ∃ w1, w1 = w.alloc (.cells (u8s d).toArray 33) := ⟨_, rfl⟩
  rw [← hw1] at hbA hrd hg1 hh1 ⊢
  clear hw1
  have hud := Tryz.underlying33
  have hui : (Tryz.prog.info? 33).map (·.size) = some (u8s d).length := by rw [h32]; kernel_rfl
  go_region_held3 (fun w' => w'.cell? ⟨g, 0, none⟩ = some (.map (some b)) ∧ w'.rangeAt w.heap.size 0 (u8s d) ∧ w'.heap[b]? = w.heap[b]? ∧ Below w.heap.size w w')
    (first
      | (refine ⟨by assumption, by assumption, by assumption, hbA.drew⟩)
      | (go_split_ands; exact ⟨by assumption, by assumption, by assumption, by assumption⟩)
      | go_keep)
    (fail)
  go_wp2_with fail
  go_ret2
  exact ⟨rfl, by go_split_ands; assumption⟩

set_option maxHeartbeats 1000000 in
theorem has_any (g b n c : Nat) (f : List Int → Option Int) (d : List Int) (now : Int) (w : World) (h : IX w g b n f c) (hd : DigOk d) :
    Calls Tryz.prog 30 #[.pointer (some ⟨g, 0, none⟩), .agg (u8s d).toArray, .int .i64 now] w fun e w' => e = .returned (.bool ((f d).isSome && decide (now ≤ (f d).getD 0))) ∧ Below w.heap.size w w' := by
  have hbA : Below w.heap.size w (w.alloc (.cells (u8s d).toArray 33)) := (by repeat (first | exact Below.refl _ _ | assumption | refine bdrewN ?_ _ | refine Below.setCell ?_ (by first | exact Nat.le_refl _ | assumption | omega | (simp <;> omega)) _ | refine Below.alloc ?_ (by first | exact Nat.le_refl _ | assumption | omega | (simp <;> omega)) _))
  have hrd := (Blk.new w 33 (u8s d).toArray).range
  have h32 : (u8s d).length = 32 := by simp [u8s, hd.len]
  rw [List.toList_toArray] at hrd
  go_enter Tryz.func30, Tryz.ntmps30
  go_wp2_with (refine ld 33 _ rfl rfl rfl hrd Tryz.underlying33 rfl (by rw [h32]; kernel_rfl) ?_)
  refine (get_any g b n c f d _ (h.keep hbA) hd).mono ?_
  rintro e w1 ⟨rfl, hb0⟩
  have hb1 := bstep hbA hb0
  clear h
  rcases Bool.eq_false_or_eq_true (f d).isSome with t1 | t1 <;> rcases Bool.eq_false_or_eq_true (decide (now ≤ (f d).getD 0)) with t2 | t2
  all_goals
    go_wp2_with fail
    go_ret
    exact ⟨by rw [t1, t2]; rfl, hb1⟩

theorem nil_put (cs : Array Value) (w : World) :
    Calls Tryz.prog 34 #[.pointer none, .agg cs] w fun e w' => e = .returned (.bool false) ∧ Below w.heap.size w w' := by
  go_enter Tryz.func34, Tryz.ntmps34
  go_wp2_with fail
  go_ret
  exact ⟨rfl, (by repeat (first | exact Below.refl _ _ | assumption | refine bdrewN ?_ _ | refine Below.setCell ?_ (by first | exact Nat.le_refl _ | assumption | omega | (simp <;> omega)) _ | refine Below.alloc ?_ (by first | exact Nat.le_refl _ | assumption | omega | (simp <;> omega)) _))⟩
theorem nil_drop (now : Int) (w : World) :
    Calls Tryz.prog 38 #[.pointer none, .int .i64 now] w fun e w' => e = .returned (.int .i64 0) ∧ w = w' := by
  go_enter Tryz.func38, Tryz.ntmps38
  go_wp2_with fail
  go_ret
  exact ⟨rfl, rfl⟩
end Go.Proofs.YtombncedfleljaaGreat
namespace Go.Proofs.YtombncedfleljaaGreat
set_option maxRecDepth 100000
open Go.RowKit

def liveF (f : List Int → Option Int) (now : Int) : List Int → Option Int := fun d => match f d with | some t => if t < now then none else some t | none => none
theorem DM.zero {w : World} {b n c : Nat} {f : List Int → Option Int} (h : DM w b n f c) (hz : ∀ d, DigOk d → f d = none) : c = 0 := by
  obtain ⟨D, hown, hf⟩ := h
  obtain ⟨w', hrun, r1, r2, r3⟩ := hown.range keyed Tryz.underlying114
  rcases r1.next keyed 0 with ⟨h0, _⟩ | ⟨key, v, kl, y, w'', cnt', hkey, hlk, _⟩
  · rw [← hf.1]; exact h0
  · obtain ⟨d, hd, _, rfl⟩ := keyOf_inv hkey
    rw [hf.has hd, hz d hd] at hlk
    cases hlk
theorem Off.of_turned {w w' : World} {b : Nat} (h : w.mapTurned w' b) : Off b w w' := Off.of_grown h.grown

set_option maxRecDepth 100000 in
set_option maxHeartbeats 2000000 in
theorem drop_any (g b n c : Nat) (f : List Int → Option Int) (now : Int) (w : World) (h : IX w g b n f c) (hn : n ≤ 1000) :
    Calls Tryz.prog 38 #[.pointer (some ⟨g, 0, none⟩), .int .i64 now] w fun e w' => ∃ k c' : Nat, e = .returned (.int .i64 k) ∧ k + c' = c ∧ IX w' g b n (liveF f now) c' ∧ Off b w w' := by
  obtain ⟨hg, hgb, hm⟩ := h
  have hc := hm.le
  go_enter Tryz.func38, Tryz.ntmps38
  go_wp2_with (at_range; refine dRange Tryz.underlying114 rfl _ rfl rfl hm ?_; intro w1 hR1 hg1 hs1)
  simp only [Act.put, List.setIfInBounds_toArray, List.set_cons_zero, List.set_cons_succ]
  have hoff1 : Off b w w1 := ⟨hg1.os, hg1.tape, hg1.output, hg1.size, fun k hk _ => hg1.block k hk (by simp)⟩
  have hblt := hm.lt
  have hglt := cell_lt hg
  go_loopw [5] (fun m wr => ∃ (k c' cnt : Nat) (f' : List Int → Option Int) (left : List Int → Bool), m = .int .i64 k ∧ k + c' = c ∧ DR wr b w.heap.size n f' c' left cnt ∧ Off b w wr ∧ Hid (∀ d, DigOk d → f' d = if left d then f d else liveF f now d)) (fun _ wr => wr.rangeLeft b w.heap.size)
  case atStart => exact ⟨0, c, c, f, _, rfl, by omega, hR1, hoff1, Lib.hid (fun d _ => by
    cases h : f d <;> simp [h, liveF])⟩
  case round =>
    obtain ⟨k, c', cnt, f', left, rfl, hk, hR, hoff, HF⟩ := hrel
    have hgr : wr.cell? ⟨g, 0, none⟩ = some (.map (some b)) := hoff.cell hg hgb
    have hcnt := Lib.hid hR.left_eq
    have hszr := hoff.size
    go_wp2_with (at_next; refine dNext rfl _ rfl rfl hR ?_ ?_)
    · intro h0 hall
      go_wp2_with fail
      go_ret
      refine ⟨k, c', rfl, hk, ⟨hgr, hgb, hR.owns.congr fun d hd => ?_⟩, hoff⟩
      rw [HF.out d hd, if_neg (by rw [hall d hd]; simp)]
    · intro d t w2 cnt' hd hti hl hfd hR2 hlt hg2 hs2 hen
      have h1 := u8s_one d
      have h32 : (u8s d).length = 32 := by simp [u8s, hd.len]
      have hfd0 : f d = some t := by
        have := HF.out d hd
        rw [if_pos hl] at this
        rw [← this]; exact hfd
      have hoff2 : Off b w w2 := ⟨hg2.os.trans hoff.os, hg2.tape.trans hoff.tape, hg2.output.trans hoff.output, by omega, fun i hi hne => (hg2.block i (by omega) (fun e => by injection e with e; omega)).trans (hoff.block i hi hne)⟩
      have hgr2 : w2.cell? ⟨g, 0, none⟩ = some (.map (some b)) := hoff2.cell hg hgb
      have HFD := Lib.hid hfd
      have HFD0 := Lib.hid hfd0
      have HLT := Lib.hid hlt
      have HS2 := Lib.hid hs2
      clear hR hR1 hfd hfd0 hlt hs2
      rcases Bool.eq_false_or_eq_true (decide (t < now)) with t1 | t1
      · go_wp2_with (refine stNew 33 (.tmp 6) (.tmp 18) rfl rfl rfl rfl (by simp only [List.size_toArray, h32]; kernel_rfl) (by simp only [List.size_toArray, h32] <;> rfl) h1 ?_; intro w3 hblk hb3 hs3)
        have hgr3 := Below.cell' hb3 hgr2
        have hR3 := hR2.keep hb3
        have hoff3 := hoff2.trans (Off.of_below hb3)
        have hrd3 := Blk.range hblk
        rw [List.toList_toArray] at hrd3
        have hw2b : w2.heap.size ≠ b := by have := hoff2.size; omega
        have hud := Tryz.underlying33
        have hui : (Tryz.prog.info? 33).map (·.size) = some (u8s d).length := by rw [h32]; kernel_rfl
        have hR3d : DR w3.drew b w.heap.size n f' c' (fun x => left x && !(x == d)) cnt' := hR3.of_blocks rfl rfl
        have e1 : IntKind.i64.wrap ((k : Int) + 1) = (k : Int) + 1 := IntWalk.i64_in _ (by omega)
        clear hR2 hblk hen
        go_region_held3 (fun w' => w'.cell? ⟨g, 0, none⟩ = some (.map (some b)) ∧ w'.rangeAt w2.heap.size 0 (u8s d))
          (first
            | (refine ⟨by assumption, by assumption⟩)
            | (go_split_ands; exact ⟨by assumption, by assumption⟩)
            | (go_split_ands; exact ⟨(Off.of_turned hturn).cell (by assumption) hgb, fun j u hj => (Off.of_turned hturn).cell (show w3.drew.cell? ⟨w2.heap.size, 0 + j, none⟩ = some u from hrd3 j u hj) hw2b⟩)
            | go_keep)
          ((refine stepDel Tryz.underlying114 _ _ rfl rfl rfl hR3d hd rfl ?_; intro w4 c4 cnt4 hR4 hc4 hle4 hturn))
        go_wp2_with fail
        have hoff4 := hoff3.trans (show Off b w3 w4 from (show Off b w3 w3.drew from ⟨rfl, rfl, rfl, Nat.le_refl _, fun _ _ _ => rfl⟩).trans (Off.of_turned hturn))
        rw [HFD.out, Option.isSome_some, if_pos rfl] at hc4
        refine ⟨⟨k + 1, c4, cnt4, cut f' d, _, by go_num, by omega, hR4, hoff4, Lib.hid fun x hx => ?_⟩, ?_⟩
        · by_cases hxd : x = d
          · subst hxd
            have hlt := of_decide_eq_true t1
            simp [cut, liveF, HFD0.out, hlt]
          · simp only [cut, if_neg hxd]
            rw [HF.out x hx]
            simp [hxd]
        · rw [hcnt.out, hR4.left_eq]
          have := HLT.out
          omega
      · go_wp2_with (refine stNew 33 (.tmp 6) (.tmp 18) rfl rfl rfl rfl (by simp only [List.size_toArray, h32]; kernel_rfl) (by simp only [List.size_toArray, h32] <;> rfl) h1 ?_; intro w3 hblk hb3 hs3)
        refine ⟨⟨k, c', cnt', f', _, rfl, hk, hR2.keep hb3, hoff2.trans (Off.of_below hb3), Lib.hid fun x hx => ?_⟩, ?_⟩
        · by_cases hxd : x = d
          · subst hxd
            have hlt := of_decide_eq_false t1
            simp [liveF, HFD.out, HFD0.out, hlt]
          · rw [HF.out x hx]
            simp [hxd]
        · rw [hcnt.out, (hR2.keep hb3).left_eq]
          exact HLT.out
end Go.Proofs.YtombncedfleljaaGreat
namespace Go.Proofs.YtombncedfleljaaGreat
set_option maxRecDepth 100000
open Go.RowKit

def cmpI (x y : Int) : Int := if x < y then -1 else if y < x then 1 else 0
def cmpD : List Int → List Int → Int
  | [], [] => 0
  | [], _ :: _ => -1
  | _ :: _, [] => 1
  | a :: xs, b :: ys => if a < b then -1 else if b < a then 1 else cmpD xs ys
def cmpE (p q : List Int × Int) : Int := if cmpI p.2 q.2 ≠ 0 then cmpI p.2 q.2 else cmpD p.1 q.1
theorem byte_lt {a b : Int} (ha : 0 ≤ a ∧ a ≤ 255) (hb : 0 ≤ b ∧ b ≤ 255) : a.toNat.toUInt8 < b.toNat.toUInt8 ↔ a < b := by
  rw [UInt8.lt_iff_toNat_lt]
  simp only [Nat.toUInt8_eq, UInt8.toNat_ofNat']
  omega
theorem compareBytes_cmpD : ∀ (x y : List Int), (∀ b ∈ x, 0 ≤ b ∧ b ≤ 255) → (∀ b ∈ y, 0 ≤ b ∧ b ≤ 255) → Lib.compareBytes (Lib.bytesOf x) (Lib.bytesOf y) = cmpD x y
  | [], [], _, _ => rfl
  | [], _ :: _, _, _ => rfl
  | _ :: _, [], _, _ => rfl
  | a :: xs, b :: ys, hx, hy => by
    have ih := compareBytes_cmpD xs ys (fun c hc => hx c (by simp [hc])) (fun c hc => hy c (by simp [hc]))
    have ha := hx a (by simp)
    have hb := hy b (by simp)
    show (if a.toNat.toUInt8 < b.toNat.toUInt8 then (-1 : Int) else if b.toNat.toUInt8 < a.toNat.toUInt8 then 1 else Lib.compareBytes (Lib.bytesOf xs) (Lib.bytesOf ys)) = if a < b then -1 else if b < a then 1 else cmpD xs ys
    simp only [byte_lt ha hb, byte_lt hb ha, ih]

theorem run_cmp (g g' : Nat) (c c' : Nat) (x y : List Int) (w : World) (hx : DigOk x) (hy : DigOk y) (h : w.rangeAt g 0 (u8s x)) (h' : w.rangeAt g' 0 (u8s y)) :
    (Extern.BytealgCompare.compare #[.slice (some ⟨g, 0, none⟩) 32 c, .slice (some ⟨g', 0, none⟩) 32 c']).run Tryz.prog w = .ok (.int .i64 (cmpD x y)) w := by
  have key : ∀ (g c : Nat) (x : List Int), DigOk x → w.rangeAt g 0 (u8s x) → (Extern.Bytes.bytesOf (.slice (some ⟨g, 0, none⟩) 32 c)).run Tryz.prog w = .ok ⟨(Lib.bytesOf x).toArray⟩ w := by
    intro g c x hx h
    show (Extern.Bytes.loadBytes ⟨g, 0, none⟩ 32 .empty).run Tryz.prog w = _
    have := Lib.run_loadBytesX (P := Tryz.prog) (w := w) x ⟨g, 0, none⟩ .empty (fun j u hj => by
      have h1 := h j (.int .u8 u) (by simp [u8s, hj])
      by_cases hj0 : j = 0
      · subst hj0; simpa [Addr.add] using h1
      · simpa [Addr.add, hj0] using h1)
    rw [hx.len] at this
    rw [this]
    simp
  change Sem.run Tryz.prog (do pure (goInt (Extern.BytealgCompare.cmp (← Extern.Bytes.bytesOf (.slice (some ⟨g, 0, none⟩) 32 c)) (← Extern.Bytes.bytesOf (.slice (some ⟨g', 0, none⟩) 32 c'))))) w = _
  simp only [Sem.run_bind, Sem.run_pure, key g c x hx h, key g' c' y hy h', Result.andThen]
  rw [Lib.cmp_eq]
  show Result.ok (Value.int .i64 (Lib.compareBytes (Lib.bytesOf x).toArray.toList (Lib.bytesOf y).toArray.toList)) w = _
  rw [List.toList_toArray, List.toList_toArray, compareBytes_cmpD x y hx.byte hy.byte]

theorem bytes_Compare (g g' : Nat) (c c' : Nat) (x y : List Int) (w : World) (hx : DigOk x) (hy : DigOk y) (h : w.rangeAt g 0 (u8s x)) (h' : w.rangeAt g' 0 (u8s y)) :
    Calls Tryz.prog 86 #[.slice (some ⟨g, 0, none⟩) 32 c, .slice (some ⟨g', 0, none⟩) 32 c'] w fun e w' => e = .returned (.int .i64 (cmpD x y)) ∧ w' = w := by
  go_enter Tryz.func86, Tryz.ntmps86
  go_wp2
  rw [run_callFunc_extern Tryz.func117 (by kernel_rfl) (by kernel_rfl) (by kernel_rfl) (e := Extern.BytealgCompare.compare) (by kernel_rfl)]
  rw [run_cmp g g' c c' x y w hx hy h h']
  simp only [Result.andThen]
  rw [Oper.upon_value]
  go_wp2
  go_ret
  exact ⟨rfl, rfl⟩

theorem isNaN_any (x : Int) (w : World) : Calls Tryz.prog 116 #[.int .i64 x] w fun e w' => e = .returned (.bool false) ∧ w' = w := by
  go_enter Tryz.func116, Tryz.ntmps116
  go_wp2_with fail
  go_ret
  exact ⟨rfl, rfl⟩
theorem cmp_Compare (x y : Int) (w : World) :
    Calls Tryz.prog 85 #[.int .i64 x, .int .i64 y] w fun e w' => e = .returned (.int .i64 (cmpI x y)) ∧ w' = w := by
  rcases Bool.eq_false_or_eq_true (decide (x < y)) with t1 | t1 <;> rcases Bool.eq_false_or_eq_true (decide (y < x)) with t2 | t2
  all_goals
    go_enter Tryz.func85, Tryz.ntmps85
    go_wp2_with fail
    refine (isNaN_any x w).mono ?_
    rintro e w1 ⟨rfl, rfl⟩
    go_wp2_with fail
    refine (isNaN_any y _).mono ?_
    rintro e w1 ⟨rfl, rfl⟩
    go_wp2_with fail
    go_ret
    have u1 := t1
    have u2 := t2
    simp only [decide_eq_true_eq, decide_eq_false_iff_not] at u1 u2
    refine ⟨?_, rfl⟩
    unfold cmpI
    simp [u1, u2]
end Go.Proofs.YtombncedfleljaaGreat
namespace Go.Proofs.YtombncedfleljaaGreat
open Go.RowKit Go.ChangeShapes Go.WideShapes Go.Deep
section
variable {P : Program} {H : Type} {enc : TypeId × Value → H} {w : World} {base : Nat} {held : Bool} {α : Type}
theorem flat_length (C : α → List Value) (Ok : α → Prop) (s : Nat) (hlen : ∀ r, Ok r → (C r).length = s) : ∀ l : List α, (∀ r ∈ l, Ok r) → (l.flatMap C).length = l.length * s
  | [], _ => by simp
  | r :: l, h => by
    have := flat_length C Ok s hlen l (fun r hr => h r (by simp [hr]))
    simp [List.flatMap_cons, hlen r (h r (by simp)), this, Nat.add_mul]
    omega
theorem open_elems (C : α → List Value) (Ok : α → Prop) (s : Nat) (hs : 0 < s) (hlen : ∀ r, Ok r → (C r).length = s) {t e : TypeId} (ht : P.underlying t = some (.slice e)) (hC : P.cellsOf e = s)
    (helem : ∀ (fuel : Nat) (cs : List Value) (x : DataW H × List MemPlace), DataW.trod enc P w base (fun _ => true) held fuel e cs = some x → ∃ r, Ok r ∧ cs = C r)
    {fuel : Nat} {A : Option Addr} {len cap : Nat} {x : DataW H × List MemPlace} (h : DataW.trod enc P w base (fun _ => true) held fuel t [.slice A len cap] = some x) :
    ∃ l : List α, l.length = len ∧ (∀ r ∈ l, Ok r) ∧ Sn w s (.slice A len cap) len (l.flatMap C) := by
  rcases open_slice ht h with ⟨h0, _⟩ | ⟨a, len', cap', m, n, D, Pl, hcs, hb, hl, hm, hmm, _, hi⟩
  · simp only [List.cons.injEq, Value.slice.injEq, and_true] at h0
    obtain ⟨rfl, rfl, rfl⟩ := h0
    exact ⟨[], rfl, fun _ h => (by cases h), ⟨none, 0, rfl, Nat.le_refl _, by simp, fun h => absurd h (by omega)⟩⟩
  · simp only [List.cons.injEq, Value.slice.injEq, and_true] at hcs
    obtain ⟨rfl, rfl, rfl⟩ := hcs
    simp only [if_true] at hmm
    subst hmm
    rw [hC] at hi
    have key : ∀ k, k ≤ len → ∃ l : List α, l.length = k ∧ (∀ r ∈ l, Ok r) ∧ ∀ j u, (l.flatMap C)[j]? = some u → w.cell? (a.add j) = some u := by
      intro k
      induction k with
      | zero => exact fun _ => ⟨[], rfl, fun _ h => (by cases h), fun j u h => by simp at h⟩
      | succ k ih =>
        intro hk
        obtain ⟨l, hll, hok, hc⟩ := ih (by omega)
        obtain ⟨cs', hcs', ht'⟩ := hi k (by omega)
        obtain ⟨r, hr, rfl⟩ := helem _ _ _ ht'
        obtain ⟨_, hlen', hat⟩ := World.cells?_some hcs'
        have hfl := flat_length C Ok s hlen l hok
        rw [hll] at hfl
        refine ⟨l ++ [r], by simp [hll], fun r' hr' => ?_, fun j u hj => ?_⟩
        · rcases List.mem_append.1 hr' with h1 | h1
          · exact hok r' h1
          · simp at h1; subst h1; exact hr
        · rw [List.flatMap_append] at hj
          by_cases hjk : j < k * s
          · rw [List.getElem?_append_left (by omega)] at hj
            exact hc j u hj
          · rw [List.getElem?_append_right (by omega), hfl] at hj
            simp only [List.flatMap_cons, List.flatMap_nil, List.append_nil] at hj
            have hlt : j - k * s < s := by
              have := (List.getElem?_eq_some_iff.1 hj).1
              rw [hlen r hr] at this; exact this
            have := hat (j - k * s) hlt
            rw [Go.Deep.add_add, show k * s + (j - k * s) = j from by omega] at this
            rw [this]; exact hj
    obtain ⟨l, hll, hok, hc⟩ := key len (Nat.le_refl _)
    have hfl := flat_length C Ok s hlen l hok
    rw [hll] at hfl
    refine ⟨l, hll, hok, some a, _, rfl, hl, hfl, fun hp => ?_⟩
    obtain ⟨b, off, spot⟩ := a
    have hne : ∃ u, (l.flatMap C)[0]? = some u := by
      have : 0 < (l.flatMap C).length := by rw [hfl]; exact Nat.mul_pos hp hs
      exact ⟨_, List.getElem?_eq_getElem this⟩
    obtain ⟨u, hu⟩ := hne
    have hspot : spot = none := by simpa [Addr.add] using World.cell?_spot (hc 0 u hu)
    subst hspot
    refine ⟨b, off, rfl, fun j u hj => ?_⟩
    have := hc j u hj
    by_cases hj0 : j = 0
    · subst hj0; simpa [Addr.add] using this
    · simpa [Addr.add, hj0] using this
/-- The cells of element k. -/
theorem at_elem (C : α → List Value) (Ok : α → Prop) (s : Nat) (hlen : ∀ r, Ok r → (C r).length = s) {A : Option Addr} {cap : Nat} {l : List α} (h : Sn w s (.slice A l.length cap) l.length (l.flatMap C)) (hok : ∀ r ∈ l, Ok r) (k : Nat) (hk : k < l.length) :
    ∃ b off, A = some ⟨b, off, none⟩ ∧ ∀ j u, (C l[k])[j]? = some u → w.cell? ⟨b, off + k * s + j, none⟩ = some u := by
  obtain ⟨A', cap', hv, hc, hl, hx⟩ := h
  injection hv with hA _ _
  subst hA
  obtain ⟨b, off, rfl, hcell⟩ := hx (by omega)
  refine ⟨b, off, rfl, fun j u hj => ?_⟩
  have h1 := flat_length C Ok s hlen (l.take k) (fun r hr => hok r (List.mem_of_mem_take hr))
  rw [List.length_take, Nat.min_eq_left (by omega)] at h1
  have key : (l.flatMap C)[k * s + j]? = some u := by
    have e : l.flatMap C = (l.take k).flatMap C ++ (C l[k] ++ (l.drop (k + 1)).flatMap C) := by
      conv => lhs; rw [← List.take_append_drop k l, List.drop_eq_getElem_cons hk]
      rw [List.flatMap_append, List.flatMap_cons]
    rw [e, List.getElem?_append_right (by omega), h1, Nat.add_sub_cancel_left, List.getElem?_append_left]
    · exact hj
    · exact (List.getElem?_eq_some_iff.1 hj).1
  have := hcell (k * s + j) u key
  rw [← Nat.add_assoc] at this
  exact this
end
end Go.Proofs.YtombncedfleljaaGreat
namespace Go.Proofs.YtombncedfleljaaGreat
set_option maxRecDepth 100000
open Go.RowKit

def idxS (l : List (List Int × Int)) : (List Int → Option Int) × Nat := l.foldl (fun s p => (putF s.1 p.1 p.2, putC s.1 p.1 s.2)) (fun _ => none, 0)
theorem idxS_snoc (l : List (List Int × Int)) (k : Nat) (h : k < l.length) : idxS (l.take (k + 1)) = (putF (idxS (l.take k)).1 l[k].1 l[k].2, putC (idxS (l.take k)).1 l[k].1 (idxS (l.take k)).2) := by
  unfold idxS
  rw [List.take_succ_eq_append_getElem h, List.foldl_append]
  rfl
attribute [irreducible] idxS

set_option maxRecDepth 100000 in
set_option maxHeartbeats 2000000 in
theorem new_any (v : Value) (l : List (List Int × Int)) (w : World) (hs : Sn w 33 v l.length (l.flatMap entP)) (hok : ∀ p ∈ l, EntOk p) (hl : l.length ≤ 1000) :
    Calls Tryz.prog 43 #[v] w fun e w' => ∃ g b, e = .returned (.pointer (some ⟨g, 0, none⟩)) ∧ IX w' g b l.length (idxS l).1 (idxS l).2 ∧ w.heap.size ≤ g ∧ w.heap.size ≤ b ∧ Below w.heap.size w w' := by
  obtain ⟨A, cap, rfl, hcap, _, _⟩ := id hs
  have HS := Lib.hid hs
  have HOK := Lib.hid hok
  clear hs hok
  have hmk : ∀ w : World, (Instr.makeMap 114 none).run Tryz.prog w = .ok (.map (some w.heap.size)) (w.alloc (.map #[] 0)) := fun w => run_makeMap _ w
  go_enter Tryz.func43, Tryz.ntmps43
  go_wp2_with fail
  clear hmk
  go_loopw [11] (fun i wr => ∃ k : Nat, k ≤ l.length ∧ i = .int .i64 k ∧ IX wr (w.heap.size + 1) w.heap.size k (idxS (l.take k)).1 (idxS (l.take k)).2 ∧ Below w.heap.size w wr) (fun i _ => l.length - (intOf i).toNat)
  case atStart =>
    refine ⟨0, Nat.zero_le _, rfl, ⟨?_, by omega, ?_⟩, (by repeat (first | exact Below.refl _ _ | assumption | refine bdrewN ?_ _ | refine Below.setCell ?_ (by first | exact Nat.le_refl _ | assumption | omega | (simp <;> omega)) _ | refine Below.alloc ?_ (by first | exact Nat.le_refl _ | assumption | omega | (simp <;> omega)) _))⟩
    · exact (Blk.newAt (w.alloc (.map #[] 0)) 116 #[.map (some w.heap.size)] (w.heap.size + 1) (by simp)).cell 0
    · unfold idxS
      exact (DM.made w).keep ((Below.refl _ _).alloc (Nat.le_refl _) _)
  case round =>
    obtain ⟨k, hk, rfl, hX, hb⟩ := hrel
    by_cases hlt : k < l.length
    · obtain ⟨b, off, rfl, hr⟩ := at_elem entP EntOk 33 entP_length (HS.out.below hb) HOK.out k hlt
      have hr : wr.rangeAt b (off + k * 33) (entP l[k]) := hr
      have hpk := HOK.out l[k] (List.getElem_mem hlt)
      have hlen := entP_length l[k] hpk
      have h1 : (entP l[k]).toArray.all (·.oneCell') = true := entC_one l[k].1 l[k].2
      have hsnoc := Lib.hid (idxS_snoc l k hlt)
      have hsz := hb.size
      have hXlt := hX.2.2.lt
      have hi0 : (0 : Int) ≤ k := by omega
      have hi1 : (k : Int) < l.length := by omega
      go_wp2_with (first
        | (refine ld 35 _ rfl rfl rfl hr Tryz.underlying35 rfl (by rw [hlen]; kernel_rfl) ?_)
        | (refine stNew 35 (.tmp 5) (.tmp 14) rfl rfl rfl rfl (by simp only [List.size_toArray, hlen]; kernel_rfl) (by simp only [List.size_toArray, hlen] <;> rfl) h1 ?_; intro w2 hblk hb2 hsz2; have hr2 := Blk.range hblk; rw [List.toList_toArray] at hr2)
        | (refine ld 35 _ rfl rfl rfl hr2 Tryz.underlying35 rfl (by rw [hlen]; kernel_rfl) ?_))
      refine (put_any _ _ k _ _ l[k].1 l[k].2 w2 (hX.keep hb2) hpk.dig hpk.exp (by unfold maxLen; omega)).mono ?_
      rintro e w3 ⟨rfl, hX3, hoff⟩
      go_wp2_with fail
      refine ⟨⟨k + 1, by omega, by go_num, ?_, (bstep hb hb2).trans (hoff.below (Nat.le_refl _) (by omega))⟩, by simp [intOf]; omega⟩
      rw [hsnoc.out]
      exact hX3
    · obtain rfl : k = l.length := by omega
      rw [List.take_length] at hX
      go_wp2_with fail
      go_ret
      exact ⟨_, _, rfl, hX, Nat.le_succ _, Nat.le_refl _, hb⟩
end Go.Proofs.YtombncedfleljaaGreat
namespace Go.Proofs.YtombncedfleljaaGreat
set_option maxRecDepth 100000

theorem cmpI_neg (x y : Int) : cmpI y x = -cmpI x y := by
  unfold cmpI
  split <;> split <;> omega
theorem cmpI_cases (x y : Int) : cmpI x y = -1 ∧ x < y ∨ cmpI x y = 0 ∧ x = y ∨ cmpI x y = 1 ∧ y < x := by
  unfold cmpI
  split
  · exact .inl ⟨rfl, by assumption⟩
  · split
    · exact .inr (.inr ⟨rfl, by assumption⟩)
    · exact .inr (.inl ⟨rfl, by omega⟩)
theorem cmpD_neg : ∀ x y : List Int, cmpD y x = -cmpD x y
  | [], [] => rfl
  | [], _ :: _ => rfl
  | _ :: _, [] => rfl
  | a :: x, b :: y => by
    have ih := cmpD_neg x y
    simp only [cmpD]
    split
    · rw [if_neg (by omega)]
    · split
      · rfl
      · exact ih
theorem cmpD_range : ∀ x y : List Int, cmpD x y = -1 ∨ cmpD x y = 0 ∨ cmpD x y = 1
  | [], [] => .inr (.inl rfl)
  | [], _ :: _ => .inl rfl
  | _ :: _, [] => .inr (.inr rfl)
  | a :: x, b :: y => by
    simp only [cmpD]
    split
    · exact .inl rfl
    · split
      · exact .inr (.inr rfl)
      · exact cmpD_range x y
theorem cmpD_zero : ∀ x y : List Int, cmpD x y = 0 → x = y
  | [], [], _ => rfl
  | [], _ :: _, h => by simp [cmpD] at h
  | _ :: _, [], h => by simp [cmpD] at h
  | a :: x, b :: y, h => by
    simp only [cmpD] at h
    split at h
    · omega
    · split at h
      · omega
      · rw [cmpD_zero x y h, show a = b by omega]
theorem cmpD_self : ∀ x : List Int, cmpD x x = 0
  | [] => rfl
  | a :: x => by
    simp only [cmpD]
    rw [if_neg (by omega), if_neg (by omega)]
    exact cmpD_self x
theorem cmpD_trans : ∀ x y z : List Int, cmpD x y ≤ 0 → cmpD y z ≤ 0 → cmpD x z ≤ 0
  | [], [], [], _, _ => by simp [cmpD]
  | [], _ :: _, [], _, _ => by simp [cmpD]
  | [], _, _ :: _, _, _ => by simp [cmpD]
  | _ :: _, [], _, h, _ => by simp [cmpD] at h
  | _ :: _, _ :: _, [], _, h => by simp [cmpD] at h
  | a :: x, b :: y, c :: z, h, h' => by
    have ih := cmpD_trans x y z
    simp only [cmpD] at h h' ⊢
    split at h
    · split at h'
      · rw [if_pos (by omega)]; omega
      · split at h'
        · omega
        · rw [if_pos (by omega)]; omega
    · split at h
      · omega
      · split at h'
        · rw [if_pos (by omega)]; omega
        · split at h'
          · omega
          · rw [if_neg (by omega), if_neg (by omega)]
            exact ih h h'
theorem cmpE_neg (p q : List Int × Int) : cmpE q p = -cmpE p q := by
  unfold cmpE
  rw [cmpI_neg p.2 q.2]
  have := cmpI_cases p.2 q.2
  by_cases h : cmpI p.2 q.2 = 0
  · rw [h, if_neg (by simp), if_neg (by simp)]
    exact cmpD_neg _ _
  · rw [if_pos (by omega), if_pos h]
theorem cmpE_zero (p q : List Int × Int) : cmpE p q = 0 ↔ p = q := by
  constructor
  · intro h
    unfold cmpE at h
    rcases cmpI_cases p.2 q.2 with ⟨e, _⟩ | ⟨e, h2⟩ | ⟨e, _⟩
    · rw [e] at h; simp at h
    · rw [e, if_neg (by simp)] at h
      exact Prod.ext (cmpD_zero _ _ h) h2
    · rw [e] at h; simp at h
  · rintro rfl
    unfold cmpE
    have : cmpI p.2 p.2 = 0 := by unfold cmpI; simp
    rw [this, if_neg (by simp)]
    exact cmpD_self _
theorem cmpE_trans (p q r : List Int × Int) (h : cmpE p q ≤ 0) (h' : cmpE q r ≤ 0) : cmpE p r ≤ 0 := by
  unfold cmpE at h h' ⊢
  have t := cmpD_trans p.1 q.1 r.1
  have c1 := cmpI_cases p.2 q.2
  have c2 := cmpI_cases q.2 r.2
  have c3 := cmpI_cases p.2 r.2
  split at h <;> split at h' <;> split <;> omega
theorem cmpE_range (p q : List Int × Int) : cmpE p q = -1 ∨ cmpE p q = 0 ∨ cmpE p q = 1 := by
  unfold cmpE
  have := cmpI_cases p.2 q.2
  split
  · omega
  · exact cmpD_range _ _
end Go.Proofs.YtombncedfleljaaGreat
namespace Go.Proofs.YtombncedfleljaaGreat
set_option maxRecDepth 100000

theorem idxS_def (l : List (List Int × Int)) : idxS l = l.foldl (fun s p => (putF s.1 p.1 p.2, putC s.1 p.1 s.2)) (fun _ => none, 0) := by unfold idxS; rfl
theorem putF_at (f : List Int → Option Int) (d : List Int) (t : Int) (x : List Int) : putF f d t x = if x = d then some (match f d with | some s => if t ≤ s then s else t | none => t) else f x := by
  unfold putF old?
  cases h : f d with
  | none =>
    simp only [Option.isSome_none, Bool.false_and, Bool.false_eq_true, if_false, upd]
  | some s =>
    simp only [Option.isSome_some, Bool.true_and, Option.getD_some, decide_eq_true_eq]
    by_cases hs : t ≤ s
    · rw [if_pos hs]
      by_cases hx : x = d
      · rw [if_pos hx, hx, h, if_pos hs]
      · rw [if_neg hx]
    · rw [if_neg hs]
      simp only [upd, if_neg hs]
theorem put_comm (f : List Int → Option Int) (c : Nat) (p q : List Int × Int) :
    (putF (putF f p.1 p.2) q.1 q.2, putC (putF f p.1 p.2) q.1 (putC f p.1 c)) = (putF (putF f q.1 q.2) p.1 p.2, putC (putF f q.1 q.2) p.1 (putC f q.1 c)) := by
  obtain ⟨d, t⟩ := p
  obtain ⟨d', t'⟩ := q
  refine Prod.ext ?_ ?_
  · funext x
    simp only [putF_at]
    by_cases hd : d = d'
    · subst hd
      simp only [if_true]
      by_cases hx : x = d
      · simp only [if_pos hx]
        cases f d <;> simp only <;> (repeat' split) <;> first | rfl | (congr 1; omega)
      · simp only [if_neg hx]
    · have hd' : ¬ d' = d := fun e => hd e.symm
      simp only [if_neg hd, if_neg hd']
      by_cases hx : x = d
      · simp only [if_neg hd, hx]
      · simp only [if_neg hx]
  · simp only [putC, putF_at]
    by_cases hd : d = d'
    · subst hd
      simp
    · have hd' : ¬ d' = d := fun e => hd e.symm
      simp only [if_neg hd, if_neg hd']
      cases f d <;> cases f d' <;> simp
theorem idxS_perm {l m : List (List Int × Int)} (h : l.Perm m) : idxS l = idxS m := by
  rw [idxS_def, idxS_def]
  exact h.foldl_eq' (fun x _ y _ z => put_comm z.1 z.2 x y) _
theorem sorted_unique : ∀ (L M : List (List Int × Int)), L.Pairwise (fun p q => cmpE p q < 0) → M.Pairwise (fun p q => cmpE p q < 0) → (∀ p, p ∈ L ↔ p ∈ M) → L = M
  | [], [], _, _, _ => rfl
  | [], q :: M, _, _, h => by have := (h q).2 (by simp); simp at this
  | p :: L, [], _, _, h => by have := (h p).1 (by simp); simp at this
  | p :: L, q :: M, hL, hM, h => by
    rw [List.pairwise_cons] at hL hM
    have hpq : p = q := by
      have h1 := (h p).1 (by simp)
      have h2 := (h q).2 (by simp)
      rw [List.mem_cons] at h1 h2
      rcases h1 with h1 | h1
      · exact h1
      · rcases h2 with h2 | h2
        · exact h2.symm
        · have a1 := hM.1 p h1
          have a2 := hL.1 q h2
          have := cmpE_neg p q
          omega
    subst hpq
    have hself : cmpE p p = 0 := (cmpE_zero p p).2 rfl
    rw [sorted_unique L M hL.2 hM.2 fun r => ?_]
    constructor
    · intro hr
      have h1 := (h r).1 (by simp [hr])
      rw [List.mem_cons] at h1
      rcases h1 with rfl | h1
      · have := hL.1 _ hr; omega
      · exact h1
    · intro hr
      have h1 := (h r).2 (by simp [hr])
      rw [List.mem_cons] at h1
      rcases h1 with rfl | h1
      · have := hM.1 _ hr; omega
      · exact h1
end Go.Proofs.YtombncedfleljaaGreat
namespace Go.Proofs.YtombncedfleljaaGreat
set_option maxRecDepth 100000
open Go.RowKit
theorem DM.dropped {w : World} {b n c : Nat} {f : List Int → Option Int} (h : DM w b n f c) {d : List Int} (hd : DigOk d) : ∃ w' c', DM w' b n (cut f d) c' ∧ c' + (if (f d).isSome then 1 else 0) = c := by
  obtain ⟨D, hown, hf⟩ := h
  obtain ⟨w', _, h', _⟩ := hown.drop keyed Tryz.underlying114 (keyOf_mk hd) 0
  obtain ⟨c', hf', e⟩ := hf.del (hown.tidy keyed) hd
  exact ⟨w', c', ⟨_, h', hf'⟩, e⟩
theorem DM.count (b n : Nat) : ∀ (K : List (List Int)) (w : World) (f : List Int → Option Int) (c : Nat), DM w b n f c → (∀ d ∈ K, DigOk d) → K.Nodup → (∀ d, DigOk d → ((f d).isSome = true ↔ d ∈ K)) → c = K.length
  | [], w, f, c, h, _, _, hf => h.zero fun d hd => by
    cases h1 : f d with
    | none => rfl
    | some t =>
      have := (hf d hd).1 (by rw [h1]; rfl)
      simp at this
  | d :: K, w, f, c, h, hok, hnd, hf => by
    rw [List.nodup_cons] at hnd
    have hd := hok d (by simp)
    obtain ⟨w', c', h', e⟩ := h.dropped hd
    rw [if_pos ((hf d hd).2 (by simp))] at e
    have := DM.count b n K w' (cut f d) c' h' (fun x hx => hok x (by simp [hx])) hnd.2 (fun x hx => by
      unfold cut
      by_cases hxd : x = d
      · subst hxd
        simp [hnd.1]
      · rw [if_neg hxd, hf x hx]
        simp [hxd])
    simp only [List.length_cons]
    omega
/-- L is the index f's list: its entries, in order. -/
structure Lists (f : List Int → Option Int) (L : List (List Int × Int)) : Prop where
  mem : ∀ p : List Int × Int, p ∈ L ↔ EntOk p ∧ f p.1 = some p.2
  sorted : L.Pairwise (fun p q => cmpE p q < 0)
  exp : ∀ d t, DigOk d → f d = some t → isI64 t
theorem liveF_some {f : List Int → Option Int} {now : Int} {d : List Int} {t : Int} (h : liveF f now d = some t) : f d = some t := by
  unfold liveF at h
  cases hf : f d with
  | none => rw [hf] at h; cases h
  | some s =>
    rw [hf] at h
    simp only at h
    split at h
    · cases h
    · exact h
theorem Lists.nodup {f : List Int → Option Int} {L : List (List Int × Int)} (h : Lists f L) : (L.map (·.1)).Nodup := by
  rw [List.nodup_iff_pairwise_ne, List.pairwise_map]
  have hs : L.Pairwise (fun p q => p ≠ q) := h.sorted.imp fun {p q} hpq e => by
    subst e
    have := (cmpE_zero p p).2 rfl
    omega
  refine List.Pairwise.imp_of_mem (fun {p q} hp hq hne e => ?_) hs
  have h1 := ((h.mem p).1 hp).2
  have h2 := ((h.mem q).1 hq).2
  rw [e, h2] at h1
  injection h1 with h1
  exact hne (Prod.ext e h1.symm)
theorem Lists.count {f : List Int → Option Int} {L : List (List Int × Int)} (h : Lists f L) {w : World} {b n c : Nat} (hm : DM w b n f c) : c = L.length := by
  have := DM.count b n (L.map (·.1)) w f c hm (fun d hd => by
    obtain ⟨p, hp, rfl⟩ := List.mem_map.1 hd
    exact ((h.mem p).1 hp).1.dig) h.nodup (fun d hd => by
    constructor
    · intro hs
      obtain ⟨t, ht⟩ := Option.isSome_iff_exists.1 hs
      exact List.mem_map.2 ⟨(d, t), (h.mem _).2 ⟨⟨hd, hm.i64 hd ht⟩, ht⟩, rfl⟩
    · intro hs
      obtain ⟨p, hp, rfl⟩ := List.mem_map.1 hs
      rw [((h.mem p).1 hp).2]
      rfl)
  rw [this, List.length_map]
theorem Lists.eq {f : List Int → Option Int} {L M : List (List Int × Int)} (h : Lists f L) (h' : Lists f M) : L = M :=
  sorted_unique L M h.sorted h'.sorted fun p => by rw [h.mem, h'.mem]
/-- The entries that are live. -/
def liveL (l : List (List Int × Int)) (now : Int) : List (List Int × Int) := l.filter fun p => decide (now ≤ p.2)
theorem Lists.live {f : List Int → Option Int} {L : List (List Int × Int)} (h : Lists f L) (now : Int) : Lists (liveF f now) (liveL L now) where
  mem p := by
    unfold liveL
    rw [List.mem_filter, h.mem p]
    unfold liveF
    simp only [decide_eq_true_eq]
    cases hf : f p.1 with
    | none => simp
    | some t =>
      simp only [Option.some.injEq]
      constructor
      · rintro ⟨⟨h1, h2⟩, h3⟩
        subst h2
        exact ⟨h1, by rw [if_neg (by omega)]⟩
      · rintro ⟨h1, h2⟩
        by_cases ht : t < now
        · rw [if_pos ht] at h2; cases h2
        · rw [if_neg ht] at h2
          injection h2 with h2
          exact ⟨⟨h1, h2⟩, by omega⟩
  sorted := h.sorted.sublist List.filter_sublist
  exp d t hd ht := h.exp d t hd (liveF_some ht)
/-- What Live answers. -/
theorem Lists.of_live {f : List Int → Option Int} {now : Int} {L : List (List Int × Int)} (h : ∀ p : List Int × Int, p ∈ L ↔ EntOk p ∧ f p.1 = some p.2 ∧ now ≤ p.2) (hs : L.Pairwise (fun p q => cmpE p q < 0)) (hi : ∀ d t, DigOk d → f d = some t → isI64 t) : Lists (liveF f now) L where
  mem p := by
    rw [h p]
    unfold liveF
    cases hf : f p.1 with
    | none => simp
    | some t =>
      simp only [Option.some.injEq]
      constructor
      · rintro ⟨h1, h2, h3⟩
        subst h2
        exact ⟨h1, by rw [if_neg (by omega)]⟩
      · rintro ⟨h1, h2⟩
        by_cases ht : t < now
        · rw [if_pos ht] at h2; cases h2
        · rw [if_neg ht] at h2
          injection h2 with h2
          exact ⟨h1, h2, by omega⟩
  sorted := hs
  exp d t hd ht := hi d t hd (liveF_some ht)
theorem Lists.congr {f g : List Int → Option Int} {L : List (List Int × Int)} (h : Lists f L) (e : ∀ d, DigOk d → f d = g d) : Lists g L where
  mem p := by
    rw [h.mem p]
    constructor
    · rintro ⟨h1, h2⟩; exact ⟨h1, by rw [← e _ h1.dig]; exact h2⟩
    · rintro ⟨h1, h2⟩; exact ⟨h1, by rw [e _ h1.dig]; exact h2⟩
  sorted := h.sorted
  exp d t hd ht := h.exp d t hd (by rw [e d hd]; exact ht)
theorem liveF_live (f : List Int → Option Int) {now later : Int} (h : now ≤ later) : liveF (liveF f now) later = liveF f later := by
  funext d
  unfold liveF
  cases f d with
  | none => rfl
  | some t =>
    by_cases h1 : t < now
    · simp only [if_pos h1, if_pos (show t < later by omega)]
    · simp only [if_neg h1]
end Go.Proofs.YtombncedfleljaaGreat
namespace Go.Proofs.YtombncedfleljaaGreat
set_option maxRecDepth 100000

end Go.Proofs.YtombncedfleljaaGreat
namespace Go.Proofs.YtombncedfleljaaGreat
open Go.RowKit
theorem qLoad {P : Program} {ops : Array Oper} {Q : Act → Prop} {a : Act} {o : Oper} {rest : List Oper} {w0 : World} (ty : TypeId) (x : Operand) (ho : o.op = .load ty x) (hw : Region.wanted o (yielded ops a.tmps) = true)
    {b off : Nat} (hx : a.eval x = .pointer (some ⟨b, off, none⟩)) {cs : List Value} {d : TypeDesc} (hc : w0.rangeAt b off cs) (hu : P.underlying ty = some d) (hd : d.isRow = true) (hi : (P.info? ty).map (·.size) = some cs.length)
    (h : wpQuiet P ops (fun w' => ∃ n, w' = w0.drewN n) Q rest (a.put o.dst (.agg cs.toArray))) : wpQuiet P ops (fun w' => ∃ n, w' = w0.drewN n) Q (o :: rest) a := by
  refine wpQuiet_step fun K hK => ?_
  rw [if_pos hw]
  refine ⟨.agg cs.toArray, fun w' hw' => ?_, hK _ h⟩
  obtain ⟨n, rfl⟩ := hw'
  unfold Oper.quietAt execOp
  simp only [ho, hx, Instr.loadAt, Instr.sureAddr, Sem.run_bind, Sem.run_pure, Result.andThen_ok, run_loadVar_mid (w0.drewN n) b off ty cs d hc hu hd hi]
  exact ⟨rfl, rfl⟩
theorem qSkip {P : Program} {ops : Array Oper} {C : World → Prop} {Q : Act → Prop} {a : Act} {o : Oper} {rest : List Oper} (hw : Region.wanted o (yielded ops a.tmps) = false) (h : wpQuiet P ops C Q rest (a.put o.dst undef)) : wpQuiet P ops C Q (o :: rest) a := by
  unfold wpQuiet
  rw [if_neg (by rw [hw]; simp)]
  exact h
theorem qMove {P : Program} {ops : Array Oper} {Q : Act → Prop} {a : Act} {o : Oper} {rest : List Oper} {w0 : World} (x : Operand) (v : Value) (ho : o.op = .move x) (hw : Region.wanted o (yielded ops a.tmps) = true) (hx : a.eval x = v)
    (h : wpQuiet P ops (fun w' => ∃ n, w' = w0.drewN n) Q rest (a.put o.dst v)) : wpQuiet P ops (fun w' => ∃ n, w' = w0.drewN n) Q (o :: rest) a := by
  refine wpQuiet_step fun K hK => ?_
  rw [if_pos hw]
  refine ⟨v, fun w' hw' => ?_, hK _ h⟩
  unfold Oper.quietAt execOp
  simp only [ho, hx, Sem.run_pure]
  exact ⟨rfl, rfl⟩
theorem qPick {P : Program} {ops : Array Oper} {Q : Act → Prop} {a : Act} {o : Oper} {rest : List Oper} {w0 : World} (x y z : Operand) (b : Bool) (v : Value) (ho : o.op = .pick x y z) (hw : Region.wanted o (yielded ops a.tmps) = true) (hx : a.eval x = .bool b) (hv : (if b then a.eval y else a.eval z) = v)
    (h : wpQuiet P ops (fun w' => ∃ n, w' = w0.drewN n) Q rest (a.put o.dst v)) : wpQuiet P ops (fun w' => ∃ n, w' = w0.drewN n) Q (o :: rest) a := by
  refine wpQuiet_step fun K hK => ?_
  rw [if_pos hw]
  refine ⟨v, fun w' hw' => ?_, hK _ h⟩
  unfold Oper.quietAt execOp
  simp only [ho, hx]
  subst hv
  cases b <;> exact ⟨rfl, rfl⟩
end Go.Proofs.YtombncedfleljaaGreat
namespace Go.Proofs.YtombncedfleljaaGreat
open Go.RowKit
theorem set_many (l : List Value) : ∀ (k : Nat) (cs : Array Value) (i : Nat), ((l.zipIdx k).foldl (fun (cs : Array Value) (x : Value × Nat) => cs.setIfInBounds x.2 x.1) cs)[i]? = if k ≤ i ∧ i < k + l.length ∧ i < cs.size then l[i - k]? else cs[i]? := by
  induction l with
  | nil => intro k cs i; rw [if_neg (by simp; omega)]; rfl
  | cons v l ih =>
    intro k cs i
    rw [List.zipIdx_cons, List.foldl_cons, ih]
    simp only [Array.size_setIfInBounds, List.length_cons]
    by_cases h1 : k + 1 ≤ i ∧ i < k + 1 + l.length ∧ i < cs.size
    · rw [if_pos h1, if_pos (by omega), show i - k = (i - (k + 1)) + 1 by omega, List.getElem?_cons_succ]
    · rw [if_neg h1, Array.getElem?_setIfInBounds]
      by_cases h2 : k = i
      · subst h2
        by_cases h3 : k < cs.size
        · rw [if_pos rfl, if_pos h3, if_pos (by omega)]; simp
        · rw [if_pos rfl, if_neg h3, if_neg (by omega)]
          simp [Array.getElem?_eq_none (Nat.le_of_not_lt h3)]
      · rw [if_neg h2, if_neg (by omega)]
theorem build_size : ∀ (l : List (Value × Nat)) (cs : Array Value), (l.foldl (fun (cs : Array Value) (x : Value × Nat) => cs.setIfInBounds x.2 x.1) cs).size = cs.size := by
  intro l
  induction l with
  | nil => intro cs; rfl
  | cons x l ih => intro cs; rw [List.foldl_cons, ih, Array.size_setIfInBounds]
theorem setCells_blk {b : Nat} {t : TypeId} : ∀ (vs : List Value) (o : Nat) (w : World) (cur : Array Value), Blk w b t cur → Blk (w.setCells b o vs) b t ((vs.zipIdx o).foldl (fun (cs : Array Value) (x : Value × Nat) => cs.setIfInBounds x.2 x.1) cur)
  | [], _, _, _, h => h
  | v :: r, o, w, cur, h => by
    rw [World.setCells, List.zipIdx_cons, List.foldl_cons]
    exact setCells_blk r (o + 1) _ _ (h.set_ o v)
theorem setCells_below {b B : Nat} (hB : B ≤ b) : ∀ (vs : List Value) (o : Nat) (w : World), Below B w (w.setCells b o vs) ∧ (w.setCells b o vs).heap.size = w.heap.size
  | [], _, w => ⟨Below.refl _ _, rfl⟩
  | v :: r, o, w => by
    rw [World.setCells]
    obtain ⟨h1, h2⟩ := setCells_below hB r (o + 1) (w.setCell ⟨b, o, none⟩ v)
    have h0 : Below B w (w.setCell ⟨b, o, none⟩ v) := ⟨rfl, rfl, rfl, by simp, fun k hk => Below.heap_setCell w ⟨b, o, none⟩ v k (by show k ≠ b; omega)⟩
    exact ⟨h0.trans h1, h2.trans (by simp)⟩
theorem setCells_other {b k : Nat} (hk : k ≠ b) : ∀ (vs : List Value) (o : Nat) (w : World), (w.setCells b o vs).heap[k]? = w.heap[k]?
  | [], _, _ => rfl
  | v :: r, o, w => by
    rw [World.setCells, setCells_other hk r (o + 1) (w.setCell ⟨b, o, none⟩ v)]
    exact Below.heap_setCell w ⟨b, o, none⟩ v k hk
end Go.Proofs.YtombncedfleljaaGreat
namespace Go.Proofs.YtombncedfleljaaGreat
theorem build_ent (d : List Int) (t : Int) (hd : d.length = 32) (Z : Array Value) (hz : Z.size = 33) : ((u8s d).zipIdx.foldl (fun (cs : Array Value) (x : Value × Nat) => cs.setIfInBounds x.2 x.1) Z).setIfInBounds 32 (.int .i64 t) = (entC d t).toArray := by
  have h32 : (u8s d).length = 32 := by simp [u8s, hd]
  have hsz : ((u8s d).zipIdx.foldl (fun (cs : Array Value) (x : Value × Nat) => cs.setIfInBounds x.2 x.1) Z).size = 33 := by
    have key : ∀ (l : List (Value × Nat)) (cs : Array Value), (l.foldl (fun (cs : Array Value) (x : Value × Nat) => cs.setIfInBounds x.2 x.1) cs).size = cs.size := by
      intro l
      induction l with
      | nil => intro cs; rfl
      | cons x l ih => intro cs; rw [List.foldl_cons, ih, Array.size_setIfInBounds]
    rw [key]; exact hz
  apply Array.ext_getElem?
  intro i
  rw [Array.getElem?_setIfInBounds, set_many, hsz, hz, h32, show (entC d t).toArray[i]? = (u8s d ++ [.int .i64 t])[i]? by simp [entC]]
  by_cases h1 : 32 = i
  · subst h1
    rw [if_pos rfl, if_pos (by omega), List.getElem?_append_right (by omega), h32]
    rfl
  · rw [if_neg h1]
    by_cases h2 : i < 32
    · rw [if_pos (by omega), List.getElem?_append_left (by omega), Nat.sub_zero]
    · rw [if_neg (by omega), List.getElem?_append_right (by omega), h32]
      rw [Array.getElem?_eq_none (by rw [hz]; omega), List.getElem?_eq_none (by simp; omega)]
theorem build_one (d : List Int) (t : Int) (hd : DigOk d) (Z : Array Value) (hz : Z.size = 33) : (entC d t).zipIdx.foldl (fun (cs : Array Value) (x : Value × Nat) => cs.setIfInBounds x.2 x.1) Z = (entC d t).toArray := by
  have hl := entC_length hd t
  apply Array.ext_getElem?
  intro i
  rw [set_many, hz, hl, show (entC d t).toArray[i]? = (entC d t)[i]? by simp]
  by_cases h : i < 33
  · rw [if_pos (by omega), Nat.sub_zero]
  · rw [if_neg (by omega), Array.getElem?_eq_none (by omega), List.getElem?_eq_none (by omega)]
end Go.Proofs.YtombncedfleljaaGreat
namespace Go.Proofs.YtombncedfleljaaGreat
open Go.RowKit
section
variable {P : Program} {w : World}
theorem stepApp {ops : Array Oper} {o : Oper} {a : Act} {K : Act → World → Prop} {Q : Exit → Act → World → Prop} {E : Prop} {t e s bytes : Nat} (T : SlT P t e s bytes) (p q : Operand)
    (ho : o.op = .call { callee := .builtin .append, args := #[p, q], argTypes := #[t, t] }) (hw : Region.wanted o (yielded ops a.tmps) = true)
    {base n m : Nat} {v x : Value} {xs news : List Value} (hv : a.eval p = v) (hown : w.ownsRow base e s v n xs) (hxv : a.eval q = x) (hx : Sn w s x m news)
    (h1 : ∀ u ∈ news, u.oneCell' = true) (h63 : n + m ≤ maxLen) (hbytes : (n + m) * bytes ≤ 140737488355328) (hbase : base ≤ w.heap.size)
    (h : ∀ v' w', w'.ownsRow base e s v' (n + m) (xs ++ news) → w.grownBy w' v.ownBlock → (v'.ownBlock = v.ownBlock ∨ v'.ownBlock = some w.heap.size) → K (a.put o.dst v') w') :
    if Region.wanted o (yielded ops a.tmps) = true then Oper.wp P o a w K Q else E := by
  rw [if_pos hw]
  obtain ⟨v', w', hrun, h2, h3, h4⟩ := run_append_sn (ty := o.type) T hown hx h1 h63 hbytes hbase
  unfold Oper.wp execOp
  simp only [ho, resolve, invoke, builtin, Sem.run_bind, Sem.run_pure, Result.andThen_ok, List.map_toArray, List.map_cons, List.map_nil, hv, hxv, hrun]
  exact h v' w' h2 h3 h4
end
end Go.Proofs.YtombncedfleljaaGreat
