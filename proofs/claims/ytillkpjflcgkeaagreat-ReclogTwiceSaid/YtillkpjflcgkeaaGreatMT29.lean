import Derived.Test.YtillkpjflcgkeaaGreatMT22
import Derived.Test.YtillkpjflcgkeaaGreatMT21
set_option linter.unusedSimpArgs false
set_option maxRecDepth 100000
namespace Go.Proofs.YtillkpjflcgkeaaGreat
open Go.RowKit
attribute [local irreducible] wpQuiet wpAnyH
def Rb (c : Nat) (r r' : RefD) : Prop := r'.steps ≤ r.steps + c ∧ r'.opn.length ≤ r.opn.length + c ∧ r'.plan.length ≤ r.plan.length + c
theorem Rb.mono {c c' : Nat} {r r' : RefD} (h : Rb c r r') (hc : c ≤ c') : Rb c' r r' := ⟨by have := h.1; omega, by have := h.2.1; omega, by have := h.2.2; omega⟩
theorem Rb.trans {a b : Nat} {r r' r'' : RefD} (h : Rb a r r') (k : Rb b r' r'') : Rb (a + b) r r'' := ⟨by have := h.1; have := k.1; omega, by have := h.2.1; have := k.2.1; omega, by have := h.2.2; have := k.2.2; omega⟩
theorem Rb.refl (r : RefD) : Rb 0 r r := ⟨by omega, by omega, by omega⟩
theorem rstep_b (r : RefD) : Rb 1 r (rstep r) := ⟨by show r.steps + 1 ≤ _; omega, by show r.opn.length ≤ _; omega, by show r.plan.length ≤ _; omega⟩
theorem radd_b (r : RefD) (a : Int) (s : List Int) : Rb 1 r (radd r a s) := by
 unfold radd
 split
 ·exact ⟨by show r.steps ≤ _; omega, by show (r.opn ++ [_]).length ≤ _; simp, by show r.plan.length ≤ _; omega⟩
 ·exact (Rb.refl r).mono (by omega)
theorem rcrash_b (r : RefD) (cl : List Int) : Rb 0 r (rcrashD r cl) := ⟨by show r.steps ≤ _; omega, by show 0 ≤ _; omega, by show r.plan.length ≤ _; omega⟩
theorem rwrite_b (r : RefD) (a : Int) (s : List Int) : Rb 2 r (rwriteD r a s) := by
 unfold rwriteD
 split
 ·exact (Rb.refl r).mono (by omega)
 ·split
  ·exact ((rstep_b r).trans (radd_b _ a s)).trans (rcrash_b _ _)
  ·split
   ·exact (rstep_b r).mono (by omega)
   ·exact (rstep_b r).trans (radd_b _ a s)
theorem rsync_b (r : RefD) : Rb 1 r (rsyncD r) := by
 unfold rsyncD
 split
 ·exact (Rb.refl r).mono (by omega)
 ·split
  ·exact (rstep_b r).trans (rcrash_b _ _)
  ·split
   ·exact rstep_b r
   ·exact ⟨(rstep_b r).1, by show 0 ≤ _; omega, (rstep_b r).2.2⟩
theorem rws_b (r : RefD) (a : Int) (s : List Int) : Rb 3 r (rwsD r a s) := by
 unfold rwsD
 split
 ·exact (rwrite_b r a s).trans (rsync_b _)
 ·exact (rwrite_b r a s).mono (by omega)
theorem rfillW_b : ∀ (L : List (List Int)) (r : RefD) (a : Int), Rb (2 * L.length + 1) r (rfillW r a L).1
 | [], r, a => (rsync_b r).mono (by simp)
 | s :: L, r, a => by
  have h1 := rwrite_b r a s
  unfold rfillW
  split
  ·exact (h1.trans (rfillW_b L _ _)).mono (by simp; omega)
  ·exact h1.mono (by simp; omega)
theorem rfill_b (r : RefD) (f z : Int) (g : Nat) (l : List Ent2) : Rb (2 * l.length + 1) r (rfillD r f z g l).1 := by
 unfold rfillD
 split
 ·exact (Rb.refl r).mono (by omega)
 ·split
  ·exact (rfillW_b _ _ _).mono (by simp)
  ·exact (Rb.refl r).mono (by omega)
theorem rplan_b (r : RefD) (n : Int) (c : Bool) (cl : List Int) (v : Value) : Rb 1 r (rplanD r n c cl v) := by
 unfold rplanD
 split
 ·exact (Rb.refl r).mono (by omega)
 ·exact ⟨by show r.steps ≤ _; omega, by show r.opn.length ≤ _; omega, by show (r.plan ++ [_]).length ≤ _; simp⟩
end Go.Proofs.YtillkpjflcgkeaaGreat
