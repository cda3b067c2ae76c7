/- Parts: An entry that came in, and a list of them (a seat without an index). | Operations of tolllaw21 that came in. -/
import Derived.Test.YtombncedfleljaaGreatMK2
import Derived.Test.YtombncedfleljaaGreatMK1
import Derived.Deep.Slices
import Derived.OpenShut
import Derived.Test.YtombncedfleljaaGreatMK30
import Derived.ChangeSlices
namespace Go.Proofs.YtombncedfleljaaGreat
open Go.RowKit Go.ChangeShapes Go.WideShapes Go.Deep

section
variable {H : Type} {enc : TypeId × Value → H} {w : World} {base : Nat} {spare : Nat → Bool} {held : Bool}
theorem u8s_of : ∀ {cs : List Value}, (∀ c ∈ cs, ∃ n : Int, c = .int .u8 n ∧ 0 ≤ n ∧ n ≤ 255) → ∃ d : List Int, cs = u8s d ∧ ∀ b ∈ d, 0 ≤ b ∧ b ≤ 255
  | [], _ => ⟨[], rfl, fun _ h => by cases h⟩
  | c :: cs, h => by
    obtain ⟨n, rfl, hn⟩ := h c (by simp)
    obtain ⟨d, rfl, hd⟩ := u8s_of (cs := cs) (fun c hc => h c (by simp [hc]))
    exact ⟨n :: d, rfl, fun b hb => by
      rcases List.mem_cons.1 hb with rfl | hb
      · exact hn
      · exact hd b hb⟩
/-- An array of bytes among the cells. -/
theorem bytes_cells {t fuel n : Nat} {cs : List Value} {x : DataW H × List MemPlace} (ht : Tryz.prog.underlying t = some (.array n 5)) (hC : Tryz.prog.cellsOf t = n) (h : DataW.trod enc Tryz.prog w base spare held fuel t cs = some x) :
    ∃ d : List Int, cs = u8s d ∧ d.length = n ∧ ∀ b ∈ d, 0 ≤ b ∧ b ≤ 255 := by
  obtain ⟨xs, m, _, _, hl, hx, hi⟩ := DataW.trod_array ht h
  have h1 : Tryz.prog.cellsOf 5 = 1 := by kernel_rfl
  rw [hC] at hl
  rw [h1] at hi
  obtain ⟨d, rfl, hd⟩ := u8s_of (cs := cs) (fun c hc => by
    obtain ⟨i, hi', rfl⟩ := List.getElem_of_mem hc
    have hit := hi i (by omega)
    rw [Nat.mul_one] at hit
    have e : (cs.drop i).take 1 = [cs[i]] := by rw [List.drop_eq_getElem_cons hi']; rfl
    rw [e] at hit
    have hxi : xs[i]? = some xs[i] := List.getElem?_eq_getElem (by omega)
    rw [hxi] at hit
    obtain ⟨k, hk, _, hw⟩ := DataW.trod_int Tryz.underlying5 hit
    simp only [List.cons.injEq, and_true] at hk
    exact ⟨k, hk, bounds_u8 hw⟩)
  exact ⟨d, rfl, by simpa [u8s] using hl, hd⟩

set_option maxRecDepth 100000 in
theorem ent_cells {fuel : Nat} {cs : List Value} {x : DataW H × List MemPlace} (h : DataW.trod enc Tryz.prog w base spare held fuel 35 cs = some x) : ∃ p : List Int × Int, EntOk p ∧ cs = entP p := by
  obtain ⟨xs, n, _, _, hl, hx, hf⟩ := DataW.trod_struct Tryz.underlying35 h
  have hC : Tryz.prog.cellsOf 35 = 33 := by kernel_rfl
  rw [hC] at hl
  have hx2 : xs.length = 2 := hx
  have g : ∀ i, i < 2 → xs[i]? = some (xs[i]?.getD (.nil, [])) := fun i hi => by simp [List.getElem?_eq_getElem (show i < xs.length by omega)]
  have f0 := (hf 0 _ rfl).trans (g 0 (by omega))
  have f1 := (hf 1 _ rfl).trans (g 1 (by omega))
  obtain ⟨d, h0, hd, hb⟩ := bytes_cells (n := 32) Tryz.underlying33 (by kernel_rfl) f0
  obtain ⟨k1, h1, _, w1⟩ := DataW.trod_int Tryz.underlying2 f1
  have c0 : Tryz.prog.cellsOf 33 = 32 := by kernel_rfl
  have c1 : Tryz.prog.cellsOf 2 = 1 := by kernel_rfl
  replace h0 : (cs.drop 0).take (Tryz.prog.cellsOf 33) = u8s d := h0
  replace h1 : (cs.drop 32).take (Tryz.prog.cellsOf 2) = [.int .i64 k1] := h1
  rw [c0, List.drop_zero] at h0
  rw [c1] at h1
  refine ⟨(d, k1), ⟨⟨hd, hb⟩, isI64_of w1⟩, ?_⟩
  rw [List.take_of_length_le (by rw [List.length_drop]; omega)] at h1
  show cs = u8s d ++ [.int .i64 k1]
  rw [← h0, ← h1, List.take_append_drop]
set_option maxRecDepth 100000 in
theorem open_entry {v : Value} {r : Reach} {b0 : Nat} {x : DataW H} {ps : List MemPlace} (hv : Value.okWide Tryz.prog w r b0 35 v) (h : DataW.Trod enc Tryz.prog w base spare held 35 v x ps) : ∃ p : List Int × Int, EntOk p ∧ v = .agg (entP p).toArray := by
  simp only [Value.okWide, Tryz.underlying35] at hv
  obtain ⟨cs, rfl, _⟩ := hv
  obtain ⟨fuel, hf⟩ := h
  obtain ⟨p, hp, he⟩ := ent_cells hf
  refine ⟨p, hp, ?_⟩
  have he : cs.toList = entP p := he
  rw [← he]
end
theorem open_ents {H : Type} {enc : TypeId × Value → H} {w : World} {base : Nat} {held : Bool} {fuel : Nat} {A : Option Addr} {len cap : Nat} {x : DataW H × List MemPlace} (h : DataW.trod enc Tryz.prog w base (fun _ => true) held fuel 28 [.slice A len cap] = some x) :
    ∃ l : List (List Int × Int), l.length = len ∧ (∀ r ∈ l, EntOk r) ∧ Sn w 33 (.slice A len cap) len (l.flatMap entP) :=
  open_elems entP EntOk 33 (by decide) entP_length Tryz.underlying28 (by kernel_rfl) (fun _ _ _ h => ent_cells h) h
end Go.Proofs.YtombncedfleljaaGreat
namespace Go.Proofs.YtombncedfleljaaGreat
open Go.RowKit Go.ChangeShapes Go.WideShapes Go.Deep

section
variable {H : Type} {enc : TypeId × Value → H} {w : World} {base : Nat} {held : Bool}
theorem sn_ints {P : Program} {t e : TypeId} {k : IntKind} {fuel : Nat} {cs : List Value} {spare : Nat → Bool} {x : DataW H × List MemPlace} (ht : P.underlying t = some (.slice e)) (he : P.underlying e = some (.int k)) (hc : P.cellsOf e = 1)
    (h : DataW.trod enc P w base spare held fuel t cs = some x) :
    ∃ (A : Option Addr) (cap : Nat) (zs : List Int), cs = [.slice A zs.length cap] ∧ Sn w 1 (.slice A zs.length cap) zs.length (zs.map (Value.int k)) ∧ zs.length ≤ 9223372036854775807 ∧ ∀ n ∈ zs, (Lit.int k n).wf = true := by
  rcases open_ints ht he hc h with ⟨rfl, _⟩ | ⟨a, len, cap, zs, rfl, hb, hl, hm, hlen, _, hcell, hwf⟩
  · exact ⟨none, 0, [], rfl, ⟨none, 0, rfl, Nat.le_refl _, by simp, fun h => absurd h (by simp)⟩, by simp, fun n hn => by cases hn⟩
  · have hlz : len ≤ zs.length := by rw [hlen]; split <;> omega
    have ht' : (zs.take len).length = len := by simp; omega
    refine ⟨some a, cap, zs.take len, by rw [ht'], ?_, by rw [ht']; unfold maxLen at hm; omega, fun n hn => hwf n (List.mem_of_mem_take hn)⟩
    rw [ht']
    refine ⟨some a, cap, rfl, hl, by simp; omega, fun hp => ?_⟩
    obtain ⟨b, off, spot⟩ := a
    have hspot : spot = none := by simpa [Addr.add] using World.cell?_spot (hcell 0 (by omega))
    subst hspot
    refine ⟨b, off, rfl, fun j u hj => ?_⟩
    rw [List.getElem?_map, Option.map_eq_some_iff] at hj
    obtain ⟨n, hn, rfl⟩ := hj
    have hjl : j < len := by
      have := (List.getElem?_eq_some_iff.1 hn).1
      rw [ht'] at this; exact this
    rw [List.getElem?_take_of_lt hjl] at hn
    have := hcell j (by omega)
    rw [List.getD_eq_getElem?_getD, hn] at this
    by_cases hj0 : j = 0
    · subst hj0; simpa [Addr.add] using this
    · simpa [Addr.add, hj0] using this
/-- A field that holds a slice. -/
theorem slice_form {P : Program} {t e : TypeId} {fuel : Nat} {cs : List Value} {spare : Nat → Bool} {x : DataW H × List MemPlace} (ht : P.underlying t = some (.slice e)) (h : DataW.trod enc P w base spare held fuel t cs = some x) :
    ∃ (A : Option Addr) (len cap : Nat), cs = [.slice A len cap] ∧ len ≤ 9223372036854775807 := by
  rcases open_slice ht h with ⟨h0, _⟩ | ⟨a, len, cap, m, n, D, Pl, hcs, hb, hl, hm, hmm, _, hi⟩
  · exact ⟨none, 0, 0, h0, by omega⟩
  · exact ⟨some a, len, cap, hcs, by unfold maxLen at hm; omega⟩

set_option maxRecDepth 100000 in
set_option maxHeartbeats 2000000 in
theorem op21_elem (fuel : Nat) (cs : List Value) (x : DataW H × List MemPlace) (h : DataW.trod enc Tryz.prog w base (fun _ => true) held fuel 31 cs = some x) : ∃ o, Op21Ok w o ∧ cs = opC21 o := by
  obtain ⟨xs, n, _, _, hl, hx, hf⟩ := DataW.trod_struct Tryz.underlying31 h
  have hC : Tryz.prog.cellsOf 31 = 5 := by kernel_rfl
  rw [hC] at hl
  have hx3 : xs.length = 5 := hx
  have g : ∀ i, i < 5 → xs[i]? = some (xs[i]?.getD (.nil, [])) := fun i hi => by simp [List.getElem?_eq_getElem (show i < xs.length by omega)]
  have f0 := (hf 0 _ rfl).trans (g 0 (by omega))
  have f1 := (hf 1 _ rfl).trans (g 1 (by omega))
  have f2 := (hf 2 _ rfl).trans (g 2 (by omega))
  have f3 := (hf 3 _ rfl).trans (g 3 (by omega))
  have f4 := (hf 4 _ rfl).trans (g 4 (by omega))
  obtain ⟨k0, h0, _, w0⟩ := DataW.trod_int Tryz.underlying3 f0
  obtain ⟨k1, h1, _, w1⟩ := DataW.trod_int Tryz.underlying3 f1
  obtain ⟨k2, h2, _, w2⟩ := DataW.trod_int Tryz.underlying3 f2
  obtain ⟨k3, h3, _, w3⟩ := DataW.trod_int Tryz.underlying2 f3
  obtain ⟨A7, c7, z7, h7, s7, _, w7⟩ := sn_ints Tryz.underlying29 Tryz.underlying3 (by kernel_rfl) f4
  clear f0 f1 f2 f3 f4 hf hx hx3 g
  have c1 : Tryz.prog.cellsOf 3 = 1 := by kernel_rfl
  have c2 : Tryz.prog.cellsOf 2 = 1 := by kernel_rfl
  have c7' : Tryz.prog.cellsOf 29 = 1 := by kernel_rfl
  replace h0 : (cs.drop 0).take (Tryz.prog.cellsOf 3) = [.int .i64 k0] := h0
  replace h1 : (cs.drop 1).take (Tryz.prog.cellsOf 3) = [.int .i64 k1] := h1
  replace h2 : (cs.drop 2).take (Tryz.prog.cellsOf 3) = [.int .i64 k2] := h2
  replace h3 : (cs.drop 3).take (Tryz.prog.cellsOf 2) = [.int .i64 k3] := h3
  replace h7 : (cs.drop 4).take (Tryz.prog.cellsOf 29) = [.slice A7 z7.length c7] := h7
  rw [c1] at h0 h1 h2
  rw [c2] at h3
  rw [c7'] at h7
  refine ⟨⟨k0, k1, k2, k3, z7, .slice A7 z7.length c7⟩, ⟨isI64_of w0, isI64_of w1, isI64_of w2, isI64_of w3, s7, fun n hn => isI64_of (w7 n hn)⟩, ?_⟩
  clear hC h w0 w1 w2 w3 w7 s7
  have e0 : cs = (cs.drop 0).take 1 ++ ((cs.drop 1).take 1 ++ ((cs.drop 2).take 1 ++ ((cs.drop 3).take 1 ++ (cs.drop 4).take 1))) := by
    have h9 : cs.drop 5 = [] := List.drop_eq_nil_of_le (by omega)
    have st : ∀ i n, cs.drop i = (cs.drop i).take n ++ cs.drop (i + n) := fun i n => by rw [← List.drop_drop, List.take_append_drop]
    conv => lhs; rw [← List.drop_zero (l := cs), st 0 1, st 1 1, st 2 1, st 3 1, st 4 1, h9]
    rw [List.append_nil]
  rw [e0, h0, h1, h2, h3, h7]
  rfl
theorem open_ops21 {fuel : Nat} {A : Option Addr} {len cap : Nat} {x : DataW H × List MemPlace} (h : DataW.trod enc Tryz.prog w base (fun _ => true) held fuel 22 [.slice A len cap] = some x) :
    ∃ l : List Op21, l.length = len ∧ l.length ≤ 9223372036854775807 ∧ (∀ r ∈ l, Op21Ok w r) ∧ Sn w 5 (.slice A len cap) len (l.flatMap opC21) := by
  obtain ⟨l, h1, h2, h3⟩ := open_elems opC21 (Op21Ok w) 5 (by decide) (fun o _ => opC21_length o) Tryz.underlying22 (by kernel_rfl) op21_elem h
  obtain ⟨_, _, _, h4, h5⟩ := slice_form Tryz.underlying22 h
  simp only [List.cons.injEq, Value.slice.injEq, and_true] at h4
  exact ⟨l, h1, by omega, h2, h3⟩
end
end Go.Proofs.YtombncedfleljaaGreat
