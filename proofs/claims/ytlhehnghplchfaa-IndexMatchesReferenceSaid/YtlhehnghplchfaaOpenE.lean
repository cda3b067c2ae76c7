/- An entry that came in. -/
import Derived.Test.YtlhehnghplchfaaIdx3
import Derived.Deep.Slices
import Derived.OpenShut
namespace Go.Proofs.Ytlhehnghplchfaa
open Go.RowKit Go.ChangeShapes Go.WideShapes Go.Deep

section
variable {H : Type} {enc : TypeId × Value → H} {w : World} {base : Nat} {spare : Nat → Bool} {held : Bool}
theorem u8s_of : ∀ {cs : List Value}, (∀ c ∈ cs, ∃ n : Int, c = .int .u8 n ∧ 0 ≤ n ∧ n ≤ 255) → ∃ d : List Int, cs = u8s d ∧ ∀ b ∈ d, 0 ≤ b ∧ b ≤ 255
  | [], _ => ⟨[], rfl, fun _ h => by cases h⟩
  | c :: cs, h => by
    obtain ⟨n, rfl, hn⟩ := h c (by simp)
    obtain ⟨d, rfl, hd⟩ := u8s_of (cs := cs) (fun c hc => h c (by simp [hc]))
    exact ⟨n :: d, rfl, fun b hb => by
      rcases List.mem_cons.1 hb with rfl | hb
      · exact hn
      · exact hd b hb⟩
/-- An array of bytes among the cells. -/
theorem bytes_cells {t fuel n : Nat} {cs : List Value} {x : DataW H × List MemPlace} (ht : Try.prog.underlying t = some (.array n 5)) (hC : Try.prog.cellsOf t = n) (h : DataW.trod enc Try.prog w base spare held fuel t cs = some x) :
    ∃ d : List Int, cs = u8s d ∧ d.length = n ∧ ∀ b ∈ d, 0 ≤ b ∧ b ≤ 255 := by
  obtain ⟨xs, m, _, _, hl, hx, hi⟩ := DataW.trod_array ht h
  have h1 : Try.prog.cellsOf 5 = 1 := by kernel_rfl
  rw [hC] at hl
  rw [h1] at hi
  obtain ⟨d, rfl, hd⟩ := u8s_of (cs := cs) (fun c hc => by
    obtain ⟨i, hi', rfl⟩ := List.getElem_of_mem hc
    have hit := hi i (by omega)
    rw [Nat.mul_one] at hit
    have e : (cs.drop i).take 1 = [cs[i]] := by rw [List.drop_eq_getElem_cons hi']; rfl
    rw [e] at hit
    have hxi : xs[i]? = some xs[i] := List.getElem?_eq_getElem (by omega)
    rw [hxi] at hit
    obtain ⟨k, hk, _, hw⟩ := DataW.trod_int Try.underlying5 hit
    simp only [List.cons.injEq, and_true] at hk
    exact ⟨k, hk, bounds_u8 hw⟩)
  exact ⟨d, rfl, by simpa [u8s] using hl, hd⟩

theorem ent_cells {fuel : Nat} {cs : List Value} {x : DataW H × List MemPlace} (h : DataW.trod enc Try.prog w base spare held fuel 31 cs = some x) : ∃ p : List Int × Int, EntOk p ∧ cs = entP p := by
  obtain ⟨xs, n, _, _, hl, hx, hf⟩ := DataW.trod_struct Try.underlying31 h
  have hC : Try.prog.cellsOf 31 = 33 := by kernel_rfl
  rw [hC] at hl
  have hx2 : xs.length = 2 := hx
  have g : ∀ i, i < 2 → xs[i]? = some (xs[i]?.getD (.nil, [])) := fun i hi => by simp [List.getElem?_eq_getElem (show i < xs.length by omega)]
  have f0 := (hf 0 _ rfl).trans (g 0 (by omega))
  have f1 := (hf 1 _ rfl).trans (g 1 (by omega))
  obtain ⟨d, h0, hd, hb⟩ := bytes_cells (n := 32) Try.underlying26 (by kernel_rfl) f0
  obtain ⟨k1, h1, _, w1⟩ := DataW.trod_int Try.underlying2 f1
  have c0 : Try.prog.cellsOf 26 = 32 := by kernel_rfl
  have c1 : Try.prog.cellsOf 2 = 1 := by kernel_rfl
  replace h0 : (cs.drop 0).take (Try.prog.cellsOf 26) = u8s d := h0
  replace h1 : (cs.drop 32).take (Try.prog.cellsOf 2) = [.int .i64 k1] := h1
  rw [c0, List.drop_zero] at h0
  rw [c1] at h1
  refine ⟨(d, k1), ⟨⟨hd, hb⟩, isI64_of w1⟩, ?_⟩
  rw [List.take_of_length_le (by rw [List.length_drop]; omega)] at h1
  show cs = u8s d ++ [.int .i64 k1]
  rw [← h0, ← h1, List.take_append_drop]
theorem open_entry {v : Value} {r : Reach} {b0 : Nat} {x : DataW H} {ps : List MemPlace} (hv : Value.okWide Try.prog w r b0 31 v) (h : DataW.Trod enc Try.prog w base spare held 31 v x ps) : ∃ p : List Int × Int, EntOk p ∧ v = .agg (entP p).toArray := by
  simp only [Value.okWide, Try.underlying31] at hv
  obtain ⟨cs, rfl, _⟩ := hv
  obtain ⟨fuel, hf⟩ := h
  obtain ⟨p, hp, he⟩ := ent_cells hf
  refine ⟨p, hp, ?_⟩
  have he : cs.toList = entP p := he
  rw [← he]
end
end Go.Proofs.Ytlhehnghplchfaa
