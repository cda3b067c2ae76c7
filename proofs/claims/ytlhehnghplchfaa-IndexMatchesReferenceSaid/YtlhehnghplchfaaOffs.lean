/- What stands when only a map's block changes. -/
import Derived.Test.YtlhehnghplchfaaIdx4
namespace Go.Proofs.Ytlhehnghplchfaa
open Go.RowKit
theorem DM.ne {w : World} {b n c : Nat} {f : List Int → Option Int} (h : DM w b n f c) {a : Addr} {v : Value} (hc : w.cell? a = some v) : a.block ≠ b := by
  intro e
  obtain ⟨D, ⟨es, clock, hb, _⟩, _⟩ := h
  unfold World.cell? at hc
  rw [e, hb] at hc
  simp at hc
theorem Sn.off {w w' : World} {b n c s k : Nat} {f : List Int → Option Int} {v : Value} {xs : List Value} (h : Sn w s v k xs) (hm : DM w b n f c) (ho : Off b w w') : Sn w' s v k xs := by
  obtain ⟨A, cap, hv, hc, hl, hx⟩ := h
  refine ⟨A, cap, hv, hc, hl, fun hp => ?_⟩
  obtain ⟨b1, off, rfl, hcell⟩ := hx hp
  exact ⟨b1, off, rfl, fun j u hj => ho.cell (hcell j u hj) (hm.ne (hcell j u hj))⟩
end Go.Proofs.Ytlhehnghplchfaa
