/- tolllaw27.awake: it answers true. -/
import Derived.Test.YtmhckcghfikeiaaDoorFew27
namespace Go.Proofs.YtmhckcghfikeiaaDoor
open Go.RowKit
set_option linter.unusedSimpArgs false

theorem calls_at {P : Program} {f : FuncId} {args : Array Value} {Q : Ending → World → Prop} (w' : World) (h : ∀ w1, w1 = w' → Calls P f args w1 Q) : Calls P f args w' Q := h _ rfl
def r0 : RowD := { kind := 3, code := 10, now := 0, live := 0, dig := List.replicate 32 0 }
theorem r0_ok : ∀ r ∈ [r0], RowOk r := by
  intro r hr
  obtain rfl : r = r0 := by simpa using hr
  exact ⟨by simp [isI64, r0], by simp [isI64, r0], by simp [isI64, r0], by simp [isI64, r0], by simp [r0], by simp [r0]⟩
theorem find_r0 : findL 5 [r0] = [(2, 0), (4, 0)] := by decide
def tfOf (f : Nat × Nat) : ByteArray × Int := (ruleN f.1, f.2)
theorem findC_tf (fs : List (Nat × Nat)) : fs.flatMap findC = (fs.map tfOf).flatMap tfC := by
  induction fs with
  | nil => rfl
  | cons f fs ih => simp only [List.flatMap_cons, List.map_cons, ih]; rfl
theorem own_inheap {w : World} {base e s n cap : Nat} {A : Option Addr} {xs : List Value} (h : w.ownsRow base e s (.slice A n cap) n xs) : InHeap w A := fun b off e => by
  rcases h.2 with ⟨h1, _⟩ | ⟨g, cap', cur, h1, _, hh, _⟩
  · injection h1 with h1 _ _; rw [h1] at e; cases e
  · injection h1 with h1 _ _; rw [h1] at e; injection e with e; injection e with e _; subst e; exact (Array.getElem?_eq_some_iff.1 hh).1
theorem InHeap.mono {w w' : World} {A : Option Addr} (h : InHeap w A) (hs : w.heap.size ≤ w'.heap.size) : InHeap w' A := fun b off e => Nat.lt_of_lt_of_le (h b off e) hs
/-- A row of the call's own is a slice. -/
theorem own_slice {w : World} {base e s n : Nat} {v : Value} {xs : List Value} (h : w.ownsRow base e s v n xs) : ∃ A cap, v = .slice A n cap ∧ Sn w s (.slice A n cap) n xs ∧ InHeap w A := by
  obtain ⟨A, cap, rfl, h1⟩ := Sn.own h
  exact ⟨A, cap, rfl, Sn.own h, own_inheap h⟩
def fs0 : List (ByteArray × Int) := [(ruleN 2, 0), (ruleN 4, 0)]
theorem fs0_ok : ∀ f ∈ fs0, TfOk f := by
  intro f hf
  simp only [fs0, List.mem_cons, List.not_mem_nil, or_false] at hf
  rcases hf with rfl | rfl <;> exact ⟨by decide, by simp [isI64]⟩
theorem text_fs0 : textS fs0 = ⟨#[113, 117, 97, 114, 97, 110, 116, 105, 110, 101, 32, 48, 10, 103, 114, 111, 119, 116, 104, 32, 48, 10]⟩ := by decide +kernel

set_option maxRecDepth 100000 in
set_option maxHeartbeats 4000000 in
theorem awake_any (w : World) (ht : Tab w) :
    Calls Tryd.prog 7 #[] w fun e w' => e = .returned (.bool true) ∧ Below w.heap.size w w' := by
  have HT := Lib.hid ht
  clear ht
  go_enter Tryd.func7, Tryd.ntmps7
  go_wp2_with fail
  refine calls_at (w.alloc (.cells (rowC r0).toArray 49)) (fun w1 hw1 => ?_)
  have hb1 : Below w.heap.size w w1 := by rw [hw1]; exact bel1 _ _
  have hs1 : Sn w1 36 (.slice (some ⟨w.heap.size, 0, none⟩) [r0].length 1) [r0].length ([r0].flatMap rowC) := by
    rw [hw1]
    have h := Sn.new w (rowC r0).toArray 49 36 1 (by decide)
    rw [List.toList_toArray] at h
    exact h
  have hz1 : InHeap w1 (some ⟨w.heap.size, 0, none⟩) := fun b off e => by injection e with e; injection e with e _; subst e; rw [hw1]; simp
  clear hw1
  have HS1 := Lib.hid hs1
  have HZ1 := Lib.hid hz1
  have HB1 := Lib.hid hb1
  clear hs1 hz1 hb1
  have h5 : isI64 5 := by simp [isI64]
  have HFD := find_any 5 [r0] _ 1 w1 HS1.out r0_ok h5 (by decide) HZ1.out
  rw [find_r0] at HFD
  refine HFD.mono ?_
  clear HFD
  rintro e w2 ⟨v, rfl, hown, hb2⟩
  obtain ⟨A2, c2, rfl, hs2, hz2⟩ := own_slice hown
  have HS2 : Hid (Sn w2 2 (.slice A2 fs0.length c2) fs0.length (fs0.flatMap tfC)) := Lib.hid hs2
  have HB2 := Lib.hid hb2
  have HB12 : Hid (Below w.heap.size w w2) := Lib.hid (bstep HB1.out hb2)
  clear hown hs2 hz2 hb2
  go_wp2_with fail
  refine calls_at (w2.alloc (.cells (fs0.flatMap tfC).toArray 34)) (fun w3 hw3 => ?_)
  have hb3 : Below w2.heap.size w2 w3 := by rw [hw3]; exact bel1 _ _
  have hs3 : Sn w3 2 (.slice (some ⟨w2.heap.size, 0, none⟩) fs0.length 2) fs0.length (fs0.flatMap tfC) := by
    rw [hw3]
    have h := Sn.new w2 (fs0.flatMap tfC).toArray 34 2 2 (by decide)
    rw [List.toList_toArray] at h
    exact h
  clear hw3
  refine (eqF_any fs0 fs0 A2 _ c2 2 w3 (HS2.out.below hb3) hs3 (by decide) fs0_ok fs0_ok).mono ?_
  rintro e w4 ⟨rfl, d, rfl⟩
  have hb4 : Below w.heap.size w (w3.drewN d) := bdrewN (bstep HB12.out hb3) d
  have hb14 : Below w1.heap.size w1 (w3.drewN d) := bdrewN (bstep HB2.out hb3) d
  have hb24 : Below w2.heap.size w2 (w3.drewN d) := bdrewN hb3 d
  obtain ⟨w4, hw4⟩ : ∃ w4, w4 = w3.drewN d := ⟨_, rfl⟩
  rw [← hw4] at hb4 hb14 hb24 ⊢
  clear hw4 hs3 hb3
  rw [decide_eq_true rfl]
  have HB4 := Lib.hid hb4
  have HB14 := Lib.hid hb14
  have HB24 := Lib.hid hb24
  clear hb4 hb14 hb24
  go_wp2_with fail
  have H1 := first_any 5 (ruleN 4) [r0] _ 1 w4 (HS1.out.below HB14.out) r0_ok h5 (by decide) (HZ1.out.mono HB14.out.size)
  rw [find_r0, show firstAt (ruleN 4) [(2, 0), (4, 0)] = 0 by decide] at H1
  refine H1.mono ?_
  clear H1
  rintro e w5 ⟨rfl, hb5⟩
  have HB5 := Lib.hid hb5
  clear hb5
  go_wp2_with fail
  have H2 := first_any 5 (ruleN 1) [r0] _ 1 w5 ((HS1.out.below HB14.out).below HB5.out) r0_ok h5 (by decide) ((HZ1.out.mono HB14.out.size).mono HB5.out.size)
  rw [find_r0, show firstAt (ruleN 1) [(2, 0), (4, 0)] = -1 by decide] at H2
  refine H2.mono ?_
  clear H2
  rintro e w6 ⟨rfl, hb6⟩
  have HB6 := Lib.hid hb6
  clear hb6
  go_wp2_with fail
  have H3 := clean_any 5 [r0] _ 1 w6 (((HS1.out.below HB14.out).below HB5.out).below HB6.out) r0_ok h5 (by decide) (((HZ1.out.mono HB14.out.size).mono HB5.out.size).mono HB6.out.size)
  rw [find_r0] at H3
  refine H3.mono ?_
  clear H3
  rintro e w7 ⟨rfl, hb7⟩
  have HB7 := Lib.hid hb7
  clear hb7
  simp only [List.isEmpty_cons]
  go_wp2_with fail
  have H4 := clean_any 5 [] none 0 w7 ⟨none, 0, rfl, Nat.le_refl _, rfl, fun h => absurd h (by simp)⟩ (fun _ h => by cases h) h5 (by decide) (fun _ _ e => by cases e)
  rw [show (findL 5 []).isEmpty = true by decide] at H4
  refine H4.mono ?_
  clear H4
  rintro e w8 ⟨rfl, hb8⟩
  have HB8 := Lib.hid hb8
  have HB48 : Hid (Below w4.heap.size w4 w8) := Lib.hid (bstep (bstep (bstep HB5.out HB6.out) HB7.out) HB8.out)
  clear hb8
  go_wp2_with fail
  have H5 := text_any fs0 A2 c2 w8 (HT.out.below (bstep HB4.out HB48.out)) ((HS2.out.below HB24.out).below HB48.out) fs0_ok (by decide)
  rw [text_fs0] at H5
  refine H5.mono ?_
  clear H5
  rintro e w9 ⟨rfl, hb9⟩
  have HB9 := Lib.hid hb9
  clear hb9
  go_wp2_with fail
  refine (Rules_any w9).mono ?_
  rintro e w10 ⟨v, rfl, hown, hb10⟩
  obtain ⟨A10, c10, rfl, _, _⟩ := own_slice hown
  have HB10 := Lib.hid hb10
  clear hown hb10
  go_wp2_with fail
  go_ret
  exact ⟨rfl, bstep (bstep (bstep HB4.out HB48.out) HB9.out) HB10.out⟩
end Go.Proofs.YtmhckcghfikeiaaDoor
