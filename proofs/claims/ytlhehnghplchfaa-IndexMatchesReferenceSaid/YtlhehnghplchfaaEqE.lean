/- '==' of entries and of digests. -/
import Derived.Test.YtlhehnghplchfaaIdx3
import Derived.DeepKeys
namespace Go.Proofs.Ytlhehnghplchfaa

theorem lits_dig (D : Nat) {d : List Int} (h : DigOk d) : Try.prog.keyLits (D + 2) 26 (u8s d) = some (d.map (Lit.int .u8)) := by
  have hc : Try.prog.cellsOf 26 = 32 := by kernel_rfl
  have hc1 : Try.prog.cellsOf 5 = 1 := by kernel_rfl
  have hl : (u8s d).length = 32 := by simp [u8s, h.len]
  unfold Program.keyLits
  rw [Try.underlying26]
  simp only [hc, hl, hc1, if_true, Nat.mul_one]
  rw [mapM_of (g := fun i => [Lit.int .u8 (d.getD i 0)]) (fun i hi => ?_)]
  · simp only [Option.map_some, Option.some.injEq]
    have hfl : ((List.range 32).map fun i => [Lit.int .u8 (d.getD i 0)]).flatten = (List.range 32).map fun i => Lit.int .u8 (d.getD i 0) := by
      rw [← List.flatMap_def, ← List.map_eq_flatMap]
    rw [hfl]
    apply List.ext_getElem
    · simp [h.len]
    · intro i h1 h2
      have hi : i < 32 := by simpa [h.len] using h2
      simp [show i < d.length by rw [h.len]; exact hi]
  · have hi : i < 32 := by simpa using hi
    have hlt : i < d.length := by rw [h.len]; exact hi
    have e : ((u8s d).drop i).take 1 = [.int .u8 (d.getD i 0)] := by
      have hlt' : i < (u8s d).length := by rw [hl]; exact hi
      rw [List.drop_eq_getElem_cons hlt']
      simp [u8s, hlt]
    rw [e]
    exact lits_u8 D _ (h.byte _ (by simp [hlt]))
theorem lits_ent {p : List Int × Int} (hp : EntOk p) : Try.prog.keyLits 3 31 (entP p) = some (p.1.map (Lit.int .u8) ++ [Lit.int .i64 p.2]) := by
  have hc : Try.prog.cellsOf 31 = 33 := by kernel_rfl
  have hc1 : Try.prog.cellsOf 26 = 32 := by kernel_rfl
  have hc2 : Try.prog.cellsOf 2 = 1 := by kernel_rfl
  have hl := entP_length p hp
  have h32 : (u8s p.1).length = 32 := by simp [u8s, hp.dig.len]
  have e1 : (entP p).take 32 = u8s p.1 := by unfold entP entC; rw [List.take_append_of_le_length (by omega), List.take_of_length_le (by omega)]
  have e2 : ((entP p).drop 32).take 1 = [.int .i64 p.2] := by unfold entP entC; rw [List.drop_append_of_le_length (by omega), List.drop_of_length_le (by omega)]; rfl
  have k2 : Try.prog.keyLits 2 2 [.int .i64 p.2] = some [Lit.int .i64 p.2] := by
    unfold Program.keyLits
    rw [Try.underlying2]
    simp [wf_i64 hp.exp]
  unfold Program.keyLits
  rw [Try.underlying31]
  simp [hc, hl, hc1, hc2, e1, e2, lits_dig 0 hp.dig, k2]
theorem lits_inj {p q : List Int × Int} (h : p.1.map (Lit.int .u8) ++ [Lit.int .i64 p.2] = q.1.map (Lit.int .u8) ++ [Lit.int .i64 q.2]) : p = q := by
  have h1 := List.append_inj' h rfl
  have h2 : p.1 = q.1 := by
    have key : ∀ a b : List Int, a.map (Lit.int .u8) = b.map (Lit.int .u8) → a = b := by
      intro a
      induction a with
      | nil => intro b hb; cases b with
        | nil => rfl
        | cons => simp at hb
      | cons x a ih => intro b hb; cases b with
        | nil => simp at hb
        | cons y b =>
          simp only [List.map_cons, List.cons.injEq, Lit.int.injEq, true_and] at hb
          rw [hb.1, ih b hb.2]
    exact key _ _ h1.1
  have h3 : p.2 = q.2 := by simpa using h1.2
  exact Prod.ext h2 h3
theorem run_eqE {p q : List Int × Int} (hp : EntOk p) (hq : EntOk q) (w : World) : (Op.equalIn 10000 31 (.agg (entP p).toArray) (.agg (entP q).toArray)).run Try.prog w = .ok (decide (p = q)) w := by
  have hu := Try.underlying31
  have hc : Try.prog.cellsOf 31 = 33 := by kernel_rfl
  have form : ∀ x : List Int × Int, EntOk x → Value.formed Try.prog 31 (.agg (entP x).toArray) = true := fun x hx => by
    unfold Value.formed
    rw [hu]
    simp [hc, entP_length x hx]
  have cells : ∀ x : List Int × Int, (Value.agg (entP x).toArray).cells.toList = entP x := fun x => by
    show (entP x).toArray.toList = _
    simp
  obtain ⟨r, hr, hiff⟩ := run_equalIn_deep (P := Try.prog) 9997 3 31 (by kernel_rfl) w 3 3 (.agg (entP p).toArray) (.agg (entP q).toArray) _ _ (form p hp) (form q hq) (by rw [cells]; exact lits_ent hp) (by rw [cells]; exact lits_ent hq)
  rw [hr]
  congr 1
  by_cases h : p = q
  · subst h
    simpa using hiff.2 rfl
  · have : ¬ r = true := fun e => h (lits_inj (hiff.1 e))
    simpa [h] using this
end Go.Proofs.Ytlhehnghplchfaa
