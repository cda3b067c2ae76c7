import Derived.Test.YtillkpjflcgkeaaGreatMT7
import Derived.Test.YtillkpjflcgkeaaGreatMT1
import Derived.Deep.Slices
import Derived.OpenShut
import Derived.Test.YtillkpjflcgkeaaGreatMT35
import Derived.ChangeSlices
set_option linter.unusedSimpArgs false
set_option maxRecDepth 100000
namespace Go.Proofs.YtillkpjflcgkeaaGreat
open Go.RowKit Go.ChangeShapes Go.WideShapes Go.Deep
section
variable {H : Type} {enc : TypeId × Value → H} {w : World} {base : Nat} {spare : Nat → Bool} {held : Bool}
theorem u8s_of : ∀ {cs : List Value}, (∀ c ∈ cs, ∃ n : Int, c = .int .u8 n ∧ 0 ≤ n ∧ n ≤ 255) → ∃ d : List Int, cs = u8s d ∧ ∀ b ∈ d, 0 ≤ b ∧ b ≤ 255
 | [], _ => ⟨[], rfl, fun _ h => by cases h⟩
 | c :: cs, h => by
  obtain ⟨n, rfl, hn⟩ := h c (by simp)
  obtain ⟨d, rfl, hd⟩ := u8s_of (cs := cs) (fun c hc => h c (by simp [hc]))
  exact ⟨n :: d, rfl, fun b hb => by
   rcases List.mem_cons.1 hb with rfl | hb
   ·exact hn
   ·exact hd b hb⟩
theorem bytes_cells {t fuel n : Nat} {cs : List Value} {x : DataW H × List MemPlace} (ht : Tryz.prog.underlying t = some (.array n 5)) (hC : Tryz.prog.cellsOf t = n) (h : DataW.trod enc Tryz.prog w base spare held fuel t cs = some x) :
  ∃ d : List Int, cs = u8s d ∧ d.length = n ∧ ∀ b ∈ d, 0 ≤ b ∧ b ≤ 255 := by
 obtain ⟨xs, m, _, _, hl, hx, hi⟩ := DataW.trod_array ht h
 have h1 : Tryz.prog.cellsOf 5 = 1 := by kernel_rfl
 rw [hC] at hl
 rw [h1] at hi
 obtain ⟨d, rfl, hd⟩ := u8s_of (cs := cs) (fun c hc => by
  obtain ⟨i, hi', rfl⟩ := List.getElem_of_mem hc
  have hit := hi i (by omega)
  rw [Nat.mul_one] at hit
  have e : (cs.drop i).take 1 = [cs[i]] := by rw [List.drop_eq_getElem_cons hi']; rfl
  rw [e] at hit
  have hxi : xs[i]? = some xs[i] := List.getElem?_eq_getElem (by omega)
  rw [hxi] at hit
  obtain ⟨k, hk, _, hw⟩ := DataW.trod_int Tryz.underlying5 hit
  simp only [List.cons.injEq, and_true] at hk
  exact ⟨k, hk, bounds_u8 hw⟩)
 exact ⟨d, rfl, by simpa [u8s] using hl, hd⟩
theorem ent_cells {fuel : Nat} {cs : List Value} {x : DataW H × List MemPlace} (h : DataW.trod enc Tryz.prog w base spare held fuel 43 cs = some x) : ∃ p : List Int × Int, EntOk p ∧ cs = entP p := by
 obtain ⟨xs, n, _, _, hl, hx, hf⟩ := DataW.trod_struct Tryz.underlying43 h
 have hC : Tryz.prog.cellsOf 43 = 33 := by kernel_rfl
 rw [hC] at hl
 have hx2 : xs.length = 2 := hx
 have g : ∀ i, i < 2 → xs[i]? = some (xs[i]?.getD (.nil, [])) := fun i hi => by simp [List.getElem?_eq_getElem (show i < xs.length by omega)]
 have f0 := (hf 0 _ rfl).trans (g 0 (by omega))
 have f1 := (hf 1 _ rfl).trans (g 1 (by omega))
 obtain ⟨d, h0, hd, hb⟩ := bytes_cells (n := 32) Tryz.underlying41 (by kernel_rfl) f0
 obtain ⟨k1, h1, _, w1⟩ := DataW.trod_int Tryz.underlying2 f1
 have c0 : Tryz.prog.cellsOf 41 = 32 := by kernel_rfl
 have c1 : Tryz.prog.cellsOf 2 = 1 := by kernel_rfl
 replace h0 : (cs.drop 0).take (Tryz.prog.cellsOf 41) = u8s d := h0
 replace h1 : (cs.drop 32).take (Tryz.prog.cellsOf 2) = [.int .i64 k1] := h1
 rw [c0, List.drop_zero] at h0
 rw [c1] at h1
 refine ⟨(d, k1), ⟨⟨hd, hb⟩, isI64_of w1⟩, ?_⟩
 rw [List.take_of_length_le (by rw [List.length_drop]; omega)] at h1
 show cs = u8s d ++ [.int .i64 k1]
 rw [← h0, ← h1, List.take_append_drop]
end
theorem open_ents {H : Type} {enc : TypeId × Value → H} {w : World} {base : Nat} {held : Bool} {fuel : Nat} {A : Option Addr} {len cap : Nat} {x : DataW H × List MemPlace} (h : DataW.trod enc Tryz.prog w base (fun _ => true) held fuel 34 [.slice A len cap] = some x) :
  ∃ l : List (List Int × Int), l.length = len ∧ (∀ r ∈ l, EntOk r) ∧ Sn w 33 (.slice A len cap) len (l.flatMap entP) :=
 open_elems entP EntOk 33 (by decide) entP_length Tryz.underlying34 (by kernel_rfl) (fun _ _ _ h => ent_cells h) h
end Go.Proofs.YtillkpjflcgkeaaGreat
namespace Go.Proofs.YtillkpjflcgkeaaGreat
open Go.RowKit Go.ChangeShapes Go.WideShapes Go.Deep
section
variable {H : Type} {enc : TypeId × Value → H} {w : World} {base : Nat} {held : Bool}
theorem sn_ints {P : Program} {t e : TypeId} {k : IntKind} {fuel : Nat} {cs : List Value} {spare : Nat → Bool} {x : DataW H × List MemPlace} (ht : P.underlying t = some (.slice e)) (he : P.underlying e = some (.int k)) (hc : P.cellsOf e = 1)
  (h : DataW.trod enc P w base spare held fuel t cs = some x) :
  ∃ (A : Option Addr) (cap : Nat) (zs : List Int), cs = [.slice A zs.length cap] ∧ Sn w 1 (.slice A zs.length cap) zs.length (zs.map (Value.int k)) ∧ zs.length ≤ 9223372036854775807 ∧ ∀ n ∈ zs, (Lit.int k n).wf = true := by
 rcases open_ints ht he hc h with ⟨rfl, _⟩ | ⟨a, len, cap, zs, rfl, hb, hl, hm, hlen, _, hcell, hwf⟩
 ·exact ⟨none, 0, [], rfl, ⟨none, 0, rfl, Nat.le_refl _, by simp, fun h => absurd h (by simp)⟩, by simp, fun n hn => by cases hn⟩
 ·have hlz : len ≤ zs.length := by rw [hlen]; split <;> omega
  have ht' : (zs.take len).length = len := by simp; omega
  refine ⟨some a, cap, zs.take len, by rw [ht'], ?_, by rw [ht']; unfold maxLen at hm; omega, fun n hn => hwf n (List.mem_of_mem_take hn)⟩
  rw [ht']
  refine ⟨some a, cap, rfl, hl, by simp; omega, fun hp => ?_⟩
  obtain ⟨b, off, spot⟩ := a
  have hspot : spot = none := by simpa [Addr.add] using World.cell?_spot (hcell 0 (by omega))
  subst hspot
  refine ⟨b, off, rfl, fun j u hj => ?_⟩
  rw [List.getElem?_map, Option.map_eq_some_iff] at hj
  obtain ⟨n, hn, rfl⟩ := hj
  have hjl : j < len := by
   have := (List.getElem?_eq_some_iff.1 hn).1
   rw [ht'] at this; exact this
  rw [List.getElem?_take_of_lt hjl] at hn
  have := hcell j (by omega)
  rw [List.getD_eq_getElem?_getD, hn] at this
  by_cases hj0 : j = 0
  ·subst hj0; simpa [Addr.add] using this
  ·simpa [Addr.add, hj0] using this
theorem slice_form {P : Program} {t e : TypeId} {fuel : Nat} {cs : List Value} {spare : Nat → Bool} {x : DataW H × List MemPlace} (ht : P.underlying t = some (.slice e)) (h : DataW.trod enc P w base spare held fuel t cs = some x) :
  ∃ (A : Option Addr) (len cap : Nat), cs = [.slice A len cap] ∧ len ≤ 9223372036854775807 := by
 rcases open_slice ht h with ⟨h0, _⟩ | ⟨a, len, cap, m, n, D, Pl, hcs, hb, hl, hm, hmm, _, hi⟩
 ·exact ⟨none, 0, 0, h0, by omega⟩
 ·exact ⟨some a, len, cap, hcs, by unfold maxLen at hm; omega⟩
set_option maxHeartbeats 2000000 in
theorem op19_elem (fuel : Nat) (cs : List Value) (x : DataW H × List MemPlace) (h : DataW.trod enc Tryz.prog w base (fun _ => true) held fuel 46 cs = some x) : ∃ o, Op19Ok w o ∧ cs = opC19 o := by
 obtain ⟨xs, n, _, _, hl, hx, hf⟩ := DataW.trod_struct Tryz.underlying46 h
 have hC : Tryz.prog.cellsOf 46 = 38 := by kernel_rfl
 rw [hC] at hl
 have hx3 : xs.length = 6 := hx
 have g : ∀ i, i < 6 → xs[i]? = some (xs[i]?.getD (.nil, [])) := fun i hi => by simp [List.getElem?_eq_getElem (show i < xs.length by omega)]
 have f0 := (hf 0 _ rfl).trans (g 0 (by omega))
 have f1 := (hf 1 _ rfl).trans (g 1 (by omega))
 have f3 := (hf 2 _ rfl).trans (g 2 (by omega))
 have f4 := (hf 3 _ rfl).trans (g 3 (by omega))
 have f5 := (hf 4 _ rfl).trans (g 4 (by omega))
 have f7 := (hf 5 _ rfl).trans (g 5 (by omega))
 obtain ⟨k0, h0, _, w0⟩ := DataW.trod_int Tryz.underlying3 f0
 obtain ⟨k1, h1, _, w1⟩ := DataW.trod_int Tryz.underlying3 f1
 obtain ⟨k3, h3, _, w3⟩ := DataW.trod_int Tryz.underlying35 f3
 obtain ⟨q, hq, h4⟩ := ent_cells f4
 obtain ⟨A5, l5, c5, h5, _⟩ := slice_form Tryz.underlying34 f5
 rw [h5] at f5
 obtain ⟨m5, hm5, ok5, s5⟩ := open_ents f5
 subst hm5
 obtain ⟨A7, c7, z7, h7, s7, _, w7⟩ := sn_ints Tryz.underlying44 Tryz.underlying3 (by kernel_rfl) f7
 clear f0 f1 f3 f4 f5 f7 hf hx hx3 g
 have c1 : Tryz.prog.cellsOf 3 = 1 := by kernel_rfl
 have c3 : Tryz.prog.cellsOf 35 = 1 := by kernel_rfl
 have c4 : Tryz.prog.cellsOf 43 = 33 := by kernel_rfl
 have c5' : Tryz.prog.cellsOf 34 = 1 := by kernel_rfl
 have c7' : Tryz.prog.cellsOf 44 = 1 := by kernel_rfl
 replace h0 : (cs.drop 0).take (Tryz.prog.cellsOf 3) = [.int .i64 k0] := h0
 replace h1 : (cs.drop 1).take (Tryz.prog.cellsOf 3) = [.int .i64 k1] := h1
 replace h3 : (cs.drop 2).take (Tryz.prog.cellsOf 35) = [.int .u32 k3] := h3
 replace h4 : (cs.drop 3).take (Tryz.prog.cellsOf 43) = entP q := h4
 replace h5 : (cs.drop 36).take (Tryz.prog.cellsOf 34) = [.slice A5 m5.length c5] := h5
 replace h7 : (cs.drop 37).take (Tryz.prog.cellsOf 44) = [.slice A7 z7.length c7] := h7
 rw [c1] at h0 h1
 rw [c3] at h3
 rw [c4] at h4
 rw [c5'] at h5
 rw [c7'] at h7
 have hb3 := bounds_u32 w3
 obtain ⟨g3, rfl⟩ : ∃ m : Nat, k3 = m := ⟨k3.toNat, by omega⟩
 refine ⟨⟨k0, k1, g3, q, m5, z7, .slice A5 m5.length c5, .slice A7 z7.length c7⟩, ⟨isI64_of w0, isI64_of w1, by show g3 < _; omega, hq, s5, ok5, s7, fun n hn => isI64_of (w7 n hn)⟩, ?_⟩
 clear hC h w0 w1 w3 w7 s5 s7 ok5 hq
 have e0 : cs = (cs.drop 0).take 1 ++ ((cs.drop 1).take 1 ++ ((cs.drop 2).take 1 ++ ((cs.drop 3).take 33 ++ ((cs.drop 36).take 1 ++ (cs.drop 37).take 1)))) := by
  have h9 : cs.drop 38 = [] := List.drop_eq_nil_of_le (by omega)
  have st : ∀ i n, cs.drop i = (cs.drop i).take n ++ cs.drop (i + n) := fun i n => by rw [← List.drop_drop, List.take_append_drop]
  conv => lhs; rw [← List.drop_zero (l := cs), st 0 1, st 1 1, st 2 1, st 3 33, st 36 1, st 37 1, h9]
  rw [List.append_nil]
 rw [e0, h0, h1, h3, h4, h5, h7]
 unfold opC19
 simp
theorem open_ops19 {fuel : Nat} {A : Option Addr} {len cap : Nat} {x : DataW H × List MemPlace} (h : DataW.trod enc Tryz.prog w base (fun _ => true) held fuel 22 [.slice A len cap] = some x) :
  ∃ l : List Op19, l.length = len ∧ l.length ≤ 9223372036854775807 ∧ (∀ r ∈ l, Op19Ok w r) ∧ Sn w 38 (.slice A len cap) len (l.flatMap opC19) := by
 obtain ⟨l, h1, h2, h3⟩ := open_elems opC19 (Op19Ok w) 38 (by decide) (fun o ho => opC19_length o ho) Tryz.underlying22 (by kernel_rfl) op19_elem h
 obtain ⟨_, _, _, h4, h5⟩ := slice_form Tryz.underlying22 h
 simp only [List.cons.injEq, Value.slice.injEq, and_true] at h4
 exact ⟨l, h1, by omega, h2, h3⟩
end
end Go.Proofs.YtillkpjflcgkeaaGreat
