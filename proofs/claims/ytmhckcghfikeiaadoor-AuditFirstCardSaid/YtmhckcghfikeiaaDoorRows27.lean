/- Rows of a journal as data: the struct of four integers and a digest, and a slice of such rows that came in. -/
import Derived.Test.YtmhckcghfikeiaaDoorBy
import Derived.Deep.Slices
import Derived.Deep.MidRow
import Derived.OpenShut
namespace Go.Proofs.YtmhckcghfikeiaaDoor
open Go.RowKit Go.ChangeShapes Go.WideShapes Go.Deep

structure RowD where
  kind : Int
  code : Int
  now : Int
  live : Int
  dig : List Int
def rowC (r : RowD) : List Value := .int .i64 r.kind :: .int .i64 r.code :: .int .i64 r.now :: .int .i64 r.live :: u8s r.dig
structure RowOk (r : RowD) : Prop where
  kind : isI64 r.kind
  code : isI64 r.code
  now : isI64 r.now
  live : isI64 r.live
  dig : r.dig.length = 32
  bytes : ∀ b ∈ r.dig, 0 ≤ b ∧ b ≤ 255
theorem rowC_length {r : RowD} (h : RowOk r) : (rowC r).length = 36 := by simp [rowC, u8s, h.dig]

section
variable {H : Type} {enc : TypeId × Value → H} {w : World} {base : Nat} {spare : Nat → Bool} {held : Bool}
theorem u8s_of : ∀ {cs : List Value}, (∀ c ∈ cs, ∃ n : Int, c = .int .u8 n ∧ 0 ≤ n ∧ n ≤ 255) → ∃ d : List Int, cs = u8s d ∧ ∀ b ∈ d, 0 ≤ b ∧ b ≤ 255
  | [], _ => ⟨[], rfl, fun _ h => by cases h⟩
  | c :: cs, h => by
    obtain ⟨n, rfl, hn⟩ := h c (by simp)
    obtain ⟨d, rfl, hd⟩ := u8s_of (cs := cs) (fun c hc => h c (by simp [hc]))
    exact ⟨n :: d, rfl, fun b hb => by
      rcases List.mem_cons.1 hb with rfl | hb
      · exact hn
      · exact hd b hb⟩
/-- An array of bytes among the cells. -/
theorem bytes_cells {t fuel n : Nat} {cs : List Value} {x : DataW H × List MemPlace} (ht : Tryd.prog.underlying t = some (.array n 5)) (hC : Tryd.prog.cellsOf t = n) (h : DataW.trod enc Tryd.prog w base spare held fuel t cs = some x) :
    ∃ d : List Int, cs = u8s d ∧ d.length = n ∧ ∀ b ∈ d, 0 ≤ b ∧ b ≤ 255 := by
  obtain ⟨xs, m, _, _, hl, hx, hi⟩ := DataW.trod_array ht h
  have h1 : Tryd.prog.cellsOf 5 = 1 := by kernel_rfl
  rw [hC] at hl
  rw [h1] at hi
  obtain ⟨d, rfl, hd⟩ := u8s_of (cs := cs) (fun c hc => by
    obtain ⟨i, hi', rfl⟩ := List.getElem_of_mem hc
    have hit := hi i (by omega)
    rw [Nat.mul_one] at hit
    have e : (cs.drop i).take 1 = [cs[i]] := by rw [List.drop_eq_getElem_cons hi']; rfl
    rw [e] at hit
    have hxi : xs[i]? = some xs[i] := List.getElem?_eq_getElem (by omega)
    rw [hxi] at hit
    obtain ⟨k, hk, _, hw⟩ := DataW.trod_int Tryd.underlying5 hit
    simp only [List.cons.injEq, and_true] at hk
    exact ⟨k, hk, bounds_u8 hw⟩)
  exact ⟨d, rfl, by simpa [u8s] using hl, hd⟩

/-- The cells of a row that came in. -/
theorem row_cells {fuel : Nat} {cs : List Value} {x : DataW H × List MemPlace} (h : DataW.trod enc Tryd.prog w base spare held fuel 51 cs = some x) : ∃ r : RowD, RowOk r ∧ cs = rowC r := by
  obtain ⟨xs, n, _, _, hl, hx, hf⟩ := DataW.trod_struct Tryd.underlying51 h
  have hC : Tryd.prog.cellsOf 51 = 36 := by kernel_rfl
  rw [hC] at hl
  have hx5 : xs.length = 5 := hx
  have g : ∀ i, i < 5 → xs[i]? = some (xs[i]?.getD (.nil, [])) := fun i hi => by simp [List.getElem?_eq_getElem (show i < xs.length by omega)]
  have f0 := (hf 0 _ rfl).trans (g 0 (by omega))
  have f1 := (hf 1 _ rfl).trans (g 1 (by omega))
  have f2 := (hf 2 _ rfl).trans (g 2 (by omega))
  have f3 := (hf 3 _ rfl).trans (g 3 (by omega))
  have f4 := (hf 4 _ rfl).trans (g 4 (by omega))
  obtain ⟨k0, h0, _, w0⟩ := DataW.trod_int Tryd.underlying3 f0
  obtain ⟨k1, h1, _, w1⟩ := DataW.trod_int Tryd.underlying3 f1
  obtain ⟨k2, h2, _, w2⟩ := DataW.trod_int Tryd.underlying2 f2
  obtain ⟨k3, h3, _, w3⟩ := DataW.trod_int Tryd.underlying3 f3
  obtain ⟨d, h4, hd, hb⟩ := bytes_cells (n := 32) Tryd.underlying47 (by kernel_rfl) f4
  have c0 : Tryd.prog.cellsOf 3 = 1 := by kernel_rfl
  have c2 : Tryd.prog.cellsOf 2 = 1 := by kernel_rfl
  have c4 : Tryd.prog.cellsOf 47 = 32 := by kernel_rfl
  refine ⟨⟨k0, k1, k2, k3, d⟩, ⟨isI64_of w0, isI64_of w1, isI64_of w2, isI64_of w3, hd, hb⟩, ?_⟩
  replace h0 : (cs.drop 0).take (Tryd.prog.cellsOf 3) = [.int .i64 k0] := h0
  replace h1 : (cs.drop 1).take (Tryd.prog.cellsOf 3) = [.int .i64 k1] := h1
  replace h2 : (cs.drop 2).take (Tryd.prog.cellsOf 2) = [.int .i64 k2] := h2
  replace h3 : (cs.drop 3).take (Tryd.prog.cellsOf 3) = [.int .i64 k3] := h3
  replace h4 : (cs.drop 4).take (Tryd.prog.cellsOf 47) = u8s d := h4
  rw [c0] at h0 h1 h3
  rw [c2] at h2
  rw [c4] at h4
  match cs, hl with
  | v0 :: v1 :: v2 :: v3 :: rest, hl =>
    simp at h0 h1 h2 h3 h4 hl
    subst h0 h1 h2 h3
    rw [List.take_of_length_le (by omega)] at h4
    subst h4
    rfl

/-- A slice of rows that came in. -/
theorem open_rows {fuel : Nat} {A : Option Addr} {len cap : Nat} {x : DataW H × List MemPlace} (h : DataW.trod enc Tryd.prog w base (fun _ => true) held fuel 22 [.slice A len cap] = some x) :
    ∃ l : List RowD, l.length = len ∧ (∀ r ∈ l, RowOk r) ∧ Sn w 36 (.slice A len cap) len (l.flatMap rowC) := by
  rcases open_slice Tryd.underlying22 h with ⟨h0, _⟩ | ⟨a, len', cap', m, n, D, Pl, hcs, hb, hl, hm, hmm, _, hi⟩
  · simp only [List.cons.injEq, Value.slice.injEq, and_true] at h0
    obtain ⟨rfl, rfl, rfl⟩ := h0
    exact ⟨[], rfl, fun _ h => (by cases h), ⟨none, 0, rfl, Nat.le_refl _, rfl, fun h => absurd h (by omega)⟩⟩
  · simp only [List.cons.injEq, Value.slice.injEq, and_true] at hcs
    obtain ⟨rfl, rfl, rfl⟩ := hcs
    simp only [if_true] at hmm
    subst hmm
    have hC : Tryd.prog.cellsOf 51 = 36 := by kernel_rfl
    rw [hC] at hi
    have key : ∀ k, k ≤ len → ∃ l : List RowD, l.length = k ∧ (∀ r ∈ l, RowOk r) ∧ ∀ j u, (l.flatMap rowC)[j]? = some u → w.cell? (a.add j) = some u := by
      intro k
      induction k with
      | zero => exact fun _ => ⟨[], rfl, fun _ h => (by cases h), fun j u h => by simp at h⟩
      | succ k ih =>
        intro hk
        obtain ⟨l, hll, hok, hc⟩ := ih (by omega)
        obtain ⟨cs', hcs', ht'⟩ := hi k (by omega)
        obtain ⟨r, hr, rfl⟩ := row_cells ht'
        obtain ⟨_, hlen', hat⟩ := World.cells?_some hcs'
        have hfl : (l.flatMap rowC).length = k * 36 := by
          rw [← hll]
          clear hc hll
          induction l with
          | nil => rfl
          | cons r' l ih2 => simp [List.flatMap_cons, rowC_length (hok r' (by simp)), ih2 (fun r hr => hok r (by simp [hr]))]; omega
        refine ⟨l ++ [r], by simp [hll], fun r' hr' => ?_, fun j u hj => ?_⟩
        · rcases List.mem_append.1 hr' with h1 | h1
          · exact hok r' h1
          · simp at h1; subst h1; exact hr
        · rw [List.flatMap_append] at hj
          by_cases hjk : j < k * 36
          · rw [List.getElem?_append_left (by omega)] at hj
            exact hc j u hj
          · rw [List.getElem?_append_right (by omega), hfl] at hj
            simp only [List.flatMap_cons, List.flatMap_nil, List.append_nil] at hj
            have hlt : j - k * 36 < 36 := by
              have := (List.getElem?_eq_some_iff.1 hj).1
              rw [rowC_length hr] at this; exact this
            have := hat (j - k * 36) hlt
            rw [Go.Deep.add_add, show k * 36 + (j - k * 36) = j from by omega] at this
            rw [this]; exact hj
    obtain ⟨l, hll, hok, hc⟩ := key len (Nat.le_refl _)
    refine ⟨l, hll, hok, some a, _, rfl, hl, ?_, fun hp => ?_⟩
    · rw [← hll]
      clear hc hll key
      induction l with
      | nil => rfl
      | cons r' l ih2 => simp [List.flatMap_cons, rowC_length (hok r' (by simp)), ih2 (fun r hr => hok r (by simp [hr]))]; omega
    · obtain ⟨b, off, spot⟩ := a
      have h0 := hc 0
      have hne : ∃ u, (l.flatMap rowC)[0]? = some u := by
        cases l with
        | nil => simp at hll; omega
        | cons r l => exact ⟨_, by simp [List.flatMap_cons, rowC]; rfl⟩
      obtain ⟨u, hu⟩ := hne
      have hspot : spot = none := by simpa [Addr.add] using World.cell?_spot (h0 u hu)
      subst hspot
      refine ⟨b, off, rfl, fun j u hj => ?_⟩
      have := hc j u hj
      rwa [Addr.add_lit] at this
end
end Go.Proofs.YtmhckcghfikeiaaDoor
