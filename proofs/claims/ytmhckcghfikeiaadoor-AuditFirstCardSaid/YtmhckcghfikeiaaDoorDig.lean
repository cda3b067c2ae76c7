/- Digests as keys of maps. -/
import Derived.Test.YtmhckcghfikeiaaDoorBy
import Derived.Deep.MidRow
import Derived.Maps.OwnSet
import Derived.Maps.RangeWalk
import Derived.WideKeyArr
import Derived.DeepKeys2
namespace Go.Proofs.YtmhckcghfikeiaaDoor
open Go.RowKit

def dv (d : List Int) : Value := .agg (u8s d).toArray
def dk (d : List Int) : Lit := .string (keyBytes (d.map (Lit.int .u8)))

theorem arrKey : WideMaps.ArrKey Tryd.prog 47 5 32 := ⟨Tryd.underlying47, by kernel_rfl, by kernel_rfl, by kernel_rfl⟩
theorem keyed : Maps.Keyed Tryd.prog 47 := Maps.Keyed.of_law arrKey.law
theorem mapM_of {α β : Type} {f : α → Option β} {g : α → β} : ∀ {L : List α}, (∀ x ∈ L, f x = some (g x)) → L.mapM f = some (L.map g)
  | [], _ => rfl
  | x :: L, h => by
    rw [List.mapM_cons, h x (by simp), mapM_of (fun y hy => h y (by simp [hy]))]
    rfl
theorem mapM_at {α β : Type} {f : α → Option β} : ∀ {L : List α} {r : List β}, L.mapM f = some r → r.length = L.length ∧ ∀ (i : Nat) (hi : i < L.length), ∃ y, r[i]? = some y ∧ f L[i] = some y
  | [], r, h => by
    obtain rfl : r = [] := by simpa using h.symm
    exact ⟨rfl, fun i hi => by simp at hi⟩
  | x :: L, r, h => by
    rw [List.mapM_cons] at h
    cases hx : f x with
    | none => rw [hx] at h; simp at h
    | some y =>
      cases hL : L.mapM f with
      | none => rw [hx, hL] at h; simp at h
      | some r' =>
        rw [hx, hL] at h
        obtain rfl : y :: r' = r := by simpa using h
        obtain ⟨h1, h2⟩ := mapM_at hL
        refine ⟨by simp [h1], fun i hi => ?_⟩
        cases i with
        | zero => exact ⟨y, rfl, hx⟩
        | succ i => exact h2 i (by simpa using hi)
theorem lits_u8 (D : Nat) (n : Int) (h : 0 ≤ n ∧ n ≤ 255) : Tryd.prog.keyLits (D + 1) 5 [.int .u8 n] = some [.int .u8 n] := by
  unfold Program.keyLits
  rw [Tryd.underlying5]
  have : (Lit.int .u8 n).wf = true := by simp [Lit.wf, IntKind.min, IntKind.max, IntKind.signed, IntKind.bits]; omega
  simp [this]
theorem lits_u8_inv (D : Nat) (c : List Value) (l : List Lit) (h : Tryd.prog.keyLits D 5 c = some l) : ∃ n : Int, (0 ≤ n ∧ n ≤ 255) ∧ c = [.int .u8 n] ∧ l = [.int .u8 n] := by
  cases D with
  | zero => simp [Program.keyLits] at h
  | succ D =>
    unfold Program.keyLits at h
    rw [Tryd.underlying5] at h
    rcases c with _ | ⟨v, _ | ⟨v2, c⟩⟩
    · simp at h
    · cases v <;> simp at h
      rename_i q n
      obtain ⟨⟨rfl, hw⟩, rfl⟩ := h
      have hb : 0 ≤ n ∧ n ≤ 255 := by
        have := hw
        simp [Lit.wf, IntKind.min, IntKind.max, IntKind.signed, IntKind.bits] at this
        omega
      exact ⟨n, hb, rfl, rfl⟩
    · cases v <;> simp at h
theorem keyOf_mk {d : List Int} (h : DigOk d) : keyOf Tryd.prog 47 (dv d) = some (dk d) := by
  have hkt : Tryd.prog.keyType 47 = true := by kernel_rfl
  have hc : Tryd.prog.cellsOf 47 = 32 := by kernel_rfl
  have hc1 : Tryd.prog.cellsOf 5 = 1 := by kernel_rfl
  obtain ⟨m, hm⟩ : ∃ m, Tryd.prog.types.size = m + 1 := ⟨Tryd.prog.types.size - 1, by kernel_rfl⟩
  have hl : (u8s d).length = 32 := by simp [u8s, h.len]
  have hf : (dv d).formed Tryd.prog 47 = true := by
    unfold dv Value.formed
    rw [Tryd.underlying47]
    simp [hc, hl]
  unfold keyOf
  rw [Tryd.underlying47]
  simp only [hkt, hf, Bool.and_self, if_true]
  have key : Tryd.prog.keyLits (Tryd.prog.types.size + 1) 47 (u8s d) = some (d.map (Lit.int .u8)) := by
    unfold Program.keyLits
    rw [Tryd.underlying47]
    simp only [hc, hl, hc1, if_true, Nat.mul_one]
    rw [mapM_of (g := fun i => [Lit.int .u8 (d.getD i 0)]) (fun i hi => ?_)]
    · simp only [Option.map_some, Option.some.injEq]
      have hfl : ((List.range 32).map fun i => [Lit.int .u8 (d.getD i 0)]).flatten = (List.range 32).map fun i => Lit.int .u8 (d.getD i 0) := by
        rw [← List.flatMap_def, ← List.map_eq_flatMap]
      rw [hfl]
      apply List.ext_getElem
      · simp [h.len]
      · intro i h1 h2
        have hi : i < 32 := by simpa [h.len] using h2
        simp [show i < d.length by rw [h.len]; exact hi]
    · have hi : i < 32 := by simpa using hi
      have hlt : i < d.length := by rw [h.len]; exact hi
      have e : ((u8s d).drop i).take 1 = [.int .u8 (d.getD i 0)] := by
        have hlt' : i < (u8s d).length := by rw [hl]; exact hi
        rw [List.drop_eq_getElem_cons hlt']
        simp [u8s, hlt]
      rw [e, hm]
      exact lits_u8 m _ (h.byte _ (by simp [hlt]))
  show ((Tryd.prog.keyLits (Tryd.prog.types.size + 1) 47 (u8s d).toArray.toList).map fun ls => Lit.string (keyBytes ls)) = _
  rw [List.toList_toArray, key]
  rfl
theorem keyOf_inv {v : Value} {kl : Lit} (h : keyOf Tryd.prog 47 v = some kl) : ∃ d, DigOk d ∧ v = dv d ∧ kl = dk d := by
  have h0 := h
  have hc : Tryd.prog.cellsOf 47 = 32 := by kernel_rfl
  have hc1 : Tryd.prog.cellsOf 5 = 1 := by kernel_rfl
  unfold keyOf at h
  rw [Tryd.underlying47] at h
  dsimp only at h
  split at h
  · rename_i hh
    obtain ⟨_, hf⟩ := (Bool.and_eq_true _ _).mp hh
    obtain ⟨cs, rfl⟩ : ∃ cs, v = .agg cs := by
      cases v <;> simp [Value.formed, Tryd.underlying47] at hf ⊢
    cases hl : Tryd.prog.keyLits (Tryd.prog.types.size + 1) 47 (Value.agg cs).cells.toList with
    | none => rw [hl] at h; simp at h
    | some ls =>
      have hcs : (Value.agg cs).cells.toList = cs.toList := rfl
      rw [hcs] at hl
      unfold Program.keyLits at hl
      rw [Tryd.underlying47] at hl
      dsimp only at hl
      split at hl
      · rename_i hlen
        rw [hc] at hlen
        rw [hc1] at hl
        cases hm : (List.range 32).mapM fun i => Tryd.prog.keyLits Tryd.prog.types.size 5 ((cs.toList.drop (i * 1)).take 1) with
        | none => rw [hm] at hl; simp at hl
        | some r =>
          obtain ⟨_, hat⟩ := mapM_at hm
          have hcell : ∀ (i : Nat) (hi : i < cs.toList.length), ∃ n : Int, (0 ≤ n ∧ n ≤ 255) ∧ cs.toList[i] = .int .u8 n := by
            intro i hi
            obtain ⟨y, _, hy⟩ := hat i (by simpa [hlen] using hi)
            obtain ⟨n, hn, hc2, _⟩ := lits_u8_inv _ _ _ hy
            rw [List.getElem_range, Nat.mul_one, List.drop_eq_getElem_cons hi] at hc2
            exact ⟨n, hn, by simpa using hc2⟩
          obtain ⟨d, hd, hdb⟩ : ∃ d : List Int, cs.toList = u8s d ∧ ∀ b ∈ d, 0 ≤ b ∧ b ≤ 255 := by
            have key : ∀ l : List Value, (∀ (i : Nat) (hi : i < l.length), ∃ n : Int, (0 ≤ n ∧ n ≤ 255) ∧ l[i] = .int .u8 n) → ∃ d : List Int, l = u8s d ∧ ∀ b ∈ d, 0 ≤ b ∧ b ≤ 255 := by
              intro l
              induction l with
              | nil => exact fun _ => ⟨[], rfl, fun b hb => by simp at hb⟩
              | cons c l ih =>
                intro hl
                obtain ⟨n, hn, hcn⟩ := hl 0 (by simp)
                have hcn : c = .int .u8 n := hcn
                subst hcn
                obtain ⟨d, rfl, hd⟩ := ih (fun i hi => hl (i + 1) (by simpa using hi))
                exact ⟨n :: d, rfl, fun b hb => by
                  rcases List.mem_cons.1 hb with rfl | hb
                  · exact hn
                  · exact hd b hb⟩
            exact key _ hcell
          have hdo : DigOk d := ⟨by have := congrArg List.length hd; simp [u8s] at this; rw [← this]; simpa using hlen, hdb⟩
          have hv : Value.agg cs = dv d := by unfold dv; rw [← hd]
          refine ⟨d, hdo, hv, ?_⟩
          rw [hv, keyOf_mk hdo] at h0
          exact (Option.some.inj h0).symm
      · cases hl
  · cases h
theorem dk_inj {d d' : List Int} (h : DigOk d) (h' : DigOk d') (e : dk d = dk d') : d = d' := by
  have hv := keyed.inj (keyOf_mk h) (by rw [keyOf_mk h', e])
  have h1 : (u8s d).toArray = (u8s d').toArray := Value.agg.inj hv
  have h2 : u8s d = u8s d' := by simpa using h1
  have key : ∀ a b : List Int, u8s a = u8s b → a = b := by
    intro a
    induction a with
    | nil => intro b hb; cases b with
      | nil => rfl
      | cons => simp [u8s] at hb
    | cons x a ih => intro b hb; cases b with
      | nil => simp [u8s] at hb
      | cons y b =>
        simp only [u8s, List.map_cons, List.cons.injEq, Value.int.injEq, true_and] at hb
        obtain ⟨rfl, hb⟩ := hb
        rw [ih b hb]
  exact key _ _ h2
theorem dk_key (d : List Int) : WideAt.IsKeyLit (dk d) := trivial
end Go.Proofs.YtmhckcghfikeiaaDoor
