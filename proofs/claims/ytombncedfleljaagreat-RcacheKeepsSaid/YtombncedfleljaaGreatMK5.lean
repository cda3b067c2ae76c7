/- Parts: tollref20.Of. | rcache: sorted lists of entries, plain. | DERIVED: THE SHELF's CONTRACTS AT THIS DUMP, IN PLAIN WORDS (tools/lay-plain.mjs out of 'YtombncedfleljaaGreatSortLay.lean', which tools/lay-shelf.mjs wrote): THE SAME DECLARATIONS UNDER THE SAME NAMES: 'import', 'namespace', 'open', 'def', 'theorem' AND NOTHING ELSE: no command of the shelf's: FOR A HAND-IN. Each laying: the table of numbers ('.._ren') and one theorem, a field a fact of the dump's own or the kernel's comparison; each contract: ONE APPLICATION. -/
import Derived.Test.YtombncedfleljaaGreatMK4
import Derived.Test.YtombncedfleljaaGreatMK2
import Derived.Shelf.SlLaysF0
import Derived.Ground.SlsfProg
import Derived.Test.YtombncedfleljaaGreatProg
namespace Go.Proofs.YtombncedfleljaaGreat
set_option maxRecDepth 100000
open Go.RowKit

theorem refPut_mem (L : List (List Int × Int)) (e : List Int × Int) (h : ∀ p ∈ L, EntOk p) (he : EntOk e) : ∀ p ∈ (refPut L e).1, EntOk p := by
  have key : ∀ (L : List (List Int × Int)) (s : List (List Int × Int) × Bool), (∀ p ∈ L, EntOk p) → (∀ p ∈ s.1, EntOk p) → ∀ p ∈ (L.foldl (putStep e) s).1, EntOk p := by
    intro L
    induction L with
    | nil => intro s _ h p hp; exact h p hp
    | cons q L ih =>
      intro s hL hs
      rw [List.foldl_cons]
      refine ih _ (fun p hp => hL p (by simp [hp])) fun p hp => ?_
      have hq := hL q (by simp)
      have hs' : ∀ p ∈ (if !s.2 && decide (cmpE e q < 0) then (s.1 ++ [e], true) else s).1, EntOk p := by
        intro p hp
        split at hp
        · rcases List.mem_append.1 hp with hp | hp
          · exact hs p hp
          · obtain rfl : p = e := by simpa using hp
            exact he
        · exact hs p hp
      unfold putStep at hp
      simp only at hp
      by_cases hd : decide (q.1 = e.1) = true
      · rw [if_pos hd] at hp
        exact hs' p hp
      · rw [if_neg hd] at hp
        rcases List.mem_append.1 hp with hp | hp
        · exact hs' p hp
        · obtain rfl : p = q := by simpa using hp
          exact hq
  intro p hp
  unfold refPut at hp
  split at hp
  · exact h p hp
  · have := key L ([], false) h (by simp)
    simp only at hp
    split at hp
    · exact this p hp
    · rcases List.mem_append.1 hp with hp | hp
      · exact this p hp
      · obtain rfl : p = e := by simpa using hp
        exact he
theorem refOf_mem (l : List (List Int × Int)) (h : ∀ p ∈ l, EntOk p) : ∀ p ∈ refOf l, EntOk p := by
  unfold refOf
  have key : ∀ (l o : List (List Int × Int)), (∀ p ∈ l, EntOk p) → (∀ p ∈ o, EntOk p) → ∀ p ∈ l.foldl (fun o e => (refPut o e).1) o, EntOk p := by
    intro l
    induction l with
    | nil => intro o _ h; exact h
    | cons q l ih =>
      intro o hl ho
      rw [List.foldl_cons]
      exact ih _ (fun p hp => hl p (by simp [hp])) (refPut_mem o q ho (hl q (by simp)))
  exact key l [] h (by simp)
attribute [local irreducible] refOf refPut

set_option maxRecDepth 100000 in
set_option maxHeartbeats 2000000 in
theorem ref_of_own (va : Value) (l : List (List Int × Int)) (w : World) (hs : Sn w 33 va l.length (l.flatMap entP)) (hok : ∀ p ∈ l, EntOk p) (hl : l.length ≤ 1000) :
    Calls Tryz.prog 98 #[va] w fun e w' => ∃ v, e = .returned v ∧ Sn w' 33 v (refOf l).length ((refOf l).flatMap entP) ∧ Below w.heap.size w w' ∧ ∀ b, v.ownBlock = some b → w.heap.size ≤ b ∧ b < w'.heap.size := by
  obtain ⟨A, cap, rfl, hcap, _, _⟩ := id hs
  have HS := Lib.hid hs
  have HOK := Lib.hid hok
  clear hs hok
  go_enter Tryz.func98, Tryz.ntmps98
  go_wp2_with fail
  go_loopw [3, 4] (fun m i wr => ∃ k : Nat, k ≤ l.length ∧ i = .int .i64 k ∧ Sn wr 33 m (refOf (l.take k)).length ((refOf (l.take k)).flatMap entP) ∧ Below w.heap.size w wr ∧ ∀ b, m.ownBlock = some b → w.heap.size ≤ b ∧ b < wr.heap.size) (fun _ i _ => l.length - (intOf i).toNat)
  case atStart => exact ⟨0, Nat.zero_le _, rfl, by unfold refOf; exact ⟨none, 0, rfl, Nat.le_refl _, rfl, fun h => absurd h (by simp)⟩, Below.refl _ _, fun b e => by cases e⟩
  case round =>
    obtain ⟨k, hk, rfl, hsn, hb, hlo⟩ := hrel
    have HLO := Lib.hid hlo
    clear hlo
    by_cases hlt : k < l.length
    · obtain ⟨b, off, rfl, hr⟩ := at_elem entP EntOk 33 entP_length (HS.out.below hb) HOK.out k hlt
      replace hr : wr.rangeAt b (off + k * 33) (entP l[k]) := hr
      have HR := Lib.hid hr
      have hpk := HOK.out l[k] (List.getElem_mem hlt)
      have hlen := entP_length l[k] hpk
      have hsnoc := Lib.hid (refOf_snoc l k hlt)
      have hmem := Lib.hid (refOf_mem (l.take k) (fun p hp => HOK.out p (List.mem_of_mem_take hp)))
      have hle := refOf_len (l.take k)
      rw [List.length_take, Nat.min_eq_left (by omega)] at hle
      obtain ⟨O, hO⟩ : ∃ O, O = refOf (l.take k) := ⟨_, rfl⟩
      rw [← hO] at hsn hsnoc hmem hle
      clear hr hO
      have HSN := Lib.hid hsn
      clear hsn
      have hi0 : (0 : Int) ≤ k := by omega
      have hi1 : (k : Int) < l.length := by omega
      go_wp2_with (first
        | (refine ld 35 _ rfl rfl rfl HR.out Tryz.underlying35 rfl (by rw [hlen]; kernel_rfl) ?_))
      refine (ref_put_own _ O l[k] wr HSN.out hmem.out (by omega) hpk).mono ?_
      rintro e w2 ⟨v, rfl, hsn2, hb2, hv2⟩
      have HV2 : Hid (∀ b, v.ownBlock = some b → w.heap.size ≤ b ∧ b < w2.heap.size) := Lib.hid (fun b e => by
        have h1 := hb.size
        have h2 := hb2.size
        rcases hv2 b e with h | h
        · have := HLO.out b h; omega
        · omega)
      clear hv2
      go_wp2_with fail
      refine ⟨⟨k + 1, by omega, by go_num, ?_, bstep hb hb2, HV2.out⟩, by simp [intOf]; omega⟩
      rw [hsnoc.out]
      exact hsn2
    · obtain rfl : k = l.length := by omega
      rw [List.take_length] at hsn
      go_wp2_with fail
      go_ret
      exact ⟨_, rfl, hsn, hb, HLO.out⟩
theorem ref_of_any (va : Value) (l : List (List Int × Int)) (w : World) (hs : Sn w 33 va l.length (l.flatMap entP)) (hok : ∀ p ∈ l, EntOk p) (hl : l.length ≤ 1000) :
    Calls Tryz.prog 98 #[va] w fun e w' => ∃ v, e = .returned v ∧ Sn w' 33 v (refOf l).length ((refOf l).flatMap entP) ∧ Below w.heap.size w w' := by
  refine (ref_of_own va l w hs hok hl).mono ?_
  rintro e w' ⟨v, h1, h2, h3, _⟩
  exact ⟨v, h1, h2, h3⟩
end Go.Proofs.YtombncedfleljaaGreat
namespace Go.Proofs.YtombncedfleljaaGreat
abbrev EL := List (List Int × Int)
/-- A sorted list of entries with different digests. -/
def WL (E : EL) : Prop := ∃ f, Lists f E
theorem WL.nil : WL [] := ⟨_, Lists.nil⟩
theorem WL.put {E : EL} (h : WL E) {q : List Int × Int} (hq : EntOk q) : WL (refPut E q).1 := by
  obtain ⟨f, h⟩ := h
  exact ⟨_, (refPut_ok h hq).1⟩
theorem WL.live {E : EL} (h : WL E) (now : Int) : WL (liveL E now) := by
  obtain ⟨f, h⟩ := h
  exact ⟨_, h.live now⟩
theorem WL.of {l : EL} (h : ∀ p ∈ l, EntOk p) : WL (refOf l) := ⟨_, refOf_ok l h⟩
theorem WL.ok {E : EL} (h : WL E) : ∀ p ∈ E, EntOk p := fun p hp => by
  obtain ⟨f, h⟩ := h
  exact ((h.mem p).1 hp).1
theorem liveL_live (E : EL) {now later : Int} (h : now ≤ later) : liveL (liveL E now) later = liveL E later := by
  unfold liveL
  rw [List.filter_filter]
  congr 1
  funext p
  by_cases h1 : later ≤ p.2
  · simp [h1]; omega
  · simp [h1]
theorem le_mono {A B : EL} {now later : Int} (h : liveL A now = liveL B now) (hl : now ≤ later) : liveL A later = liveL B later := by
  rw [← liveL_live A hl, ← liveL_live B hl, h]
theorem liveF_at (f : List Int → Option Int) (now : Int) (d : List Int) (t : Int) : liveF f now d = some t ↔ f d = some t ∧ now ≤ t := by
  unfold liveF
  cases f d with
  | none => simp
  | some s =>
    simp only [Option.some.injEq]
    by_cases h : s < now
    · rw [if_pos h]
      simp only [reduceCtorEq, false_iff, not_and]
      rintro rfl
      omega
    · rw [if_neg h]
      simp only [Option.some.injEq]
      constructor
      · rintro rfl; exact ⟨rfl, by omega⟩
      · rintro ⟨h1, _⟩; exact h1
/-- Live lists that are the same have functions that are. -/
theorem Lists.fun_eq {f g : List Int → Option Int} {A : EL} (h : Lists f A) (k : Lists g A) {d : List Int} (hd : DigOk d) : f d = g d := by
  have key : ∀ t, f d = some t ↔ g d = some t := fun t => by
    constructor
    · intro e
      exact ((k.mem (d, t)).1 ((h.mem (d, t)).2 ⟨⟨hd, h.exp d t hd e⟩, e⟩)).2
    · intro e
      exact ((h.mem (d, t)).1 ((k.mem (d, t)).2 ⟨⟨hd, k.exp d t hd e⟩, e⟩)).2
  cases hf : f d with
  | none =>
    cases hg : g d with
    | none => rfl
    | some t => rw [(key t).2 hg] at hf; cases hf
  | some t => rw [(key t).1 hf]
theorem putF_live (f g : List Int → Option Int) (d : List Int) (t now : Int) (x : List Int) (h : ∀ y, (y = d ∨ y = x) → liveF f now y = liveF g now y) : liveF (putF f d t) now x = liveF (putF g d t) now x := by
  have key : ∀ s, liveF (putF f d t) now x = some s ↔ liveF (putF g d t) now x = some s := fun s => by
    have hd := h d (.inl rfl)
    have hx := h x (.inr rfl)
    rw [liveF_at, liveF_at, putF_at, putF_at]
    by_cases e : x = d
    · subst e
      rw [if_pos rfl, if_pos rfl]
      have h1 : ∀ r, f x = some r ∧ now ≤ r ↔ g x = some r ∧ now ≤ r := fun r => by rw [← liveF_at, ← liveF_at, hd]
      cases hf : f x with
      | none =>
        cases hg : g x with
        | none => exact Iff.rfl
        | some r =>
          have h2 := h1 r
          rw [hf, hg] at h2
          have h3 : ¬ now ≤ r := fun hh => by have := h2.2 ⟨rfl, hh⟩; cases this.1
          simp only [Option.some.injEq]
          split
          · constructor
            · rintro ⟨rfl, _⟩; omega
            · rintro ⟨rfl, _⟩; omega
          · exact Iff.rfl
      | some q =>
        have h2 := h1 q
        rw [hf] at h2
        cases hg : g x with
        | none =>
          rw [hg] at h2
          have h3 : ¬ now ≤ q := fun hh => by have := h2.1 ⟨rfl, hh⟩; cases this.1
          simp only [Option.some.injEq]
          split
          · constructor
            · rintro ⟨rfl, _⟩; omega
            · rintro ⟨rfl, _⟩; omega
          · exact Iff.rfl
        | some r =>
          rw [hg] at h2
          have h4 := h1 r
          rw [hf, hg] at h4
          simp only [Option.some.injEq, true_and] at h2 h4 ⊢
          by_cases hq : now ≤ q
          · have := (h2.1 hq).1
            rw [this]
          · have hr : ¬ now ≤ r := fun hh => hq (by have := h4.2 hh; omega)
            constructor
            · rintro ⟨h5, h6⟩
              split at h5 <;> (try split) <;> omega
            · rintro ⟨h5, h6⟩
              split at h5 <;> (try split) <;> omega
    · rw [if_neg e, if_neg e, ← liveF_at, ← liveF_at, hx]
  cases hf : liveF (putF f d t) now x with
  | none =>
    cases hg : liveF (putF g d t) now x with
    | none => rfl
    | some s => rw [(key s).2 hg] at hf; cases hf
  | some s => rw [(key s).1 hf]
/-- Putting keeps that two lists have the same live entries. -/
theorem le_put {A B : EL} (hA : WL A) (hB : WL B) {q : List Int × Int} (hq : EntOk q) {now : Int} (h : liveL A now = liveL B now) : liveL (refPut A q).1 now = liveL (refPut B q).1 now := by
  obtain ⟨f, hA⟩ := hA
  obtain ⟨g, hB⟩ := hB
  have h1 := (refPut_ok hA hq).1.live now
  have h2 := (refPut_ok hB hq).1.live now
  have h3 := hA.live now
  have h4 := hB.live now
  rw [h] at h3
  refine h1.eq (h2.congr fun d hd => ?_)
  refine (putF_live f g q.1 q.2 now d fun y hy => ?_).symm
  rcases hy with rfl | rfl
  · exact h3.fun_eq h4 hq.dig
  · exact h3.fun_eq h4 hd
theorem of_snoc (l : EL) (q : List Int × Int) : refOf (l ++ [q]) = (refPut (refOf l) q).1 := by
  unfold refOf
  rw [List.foldl_append]
  rfl
theorem idxS_snoc' (l : EL) (q : List Int × Int) : (idxS (l ++ [q])).1 = putF (idxS l).1 q.1 q.2 := by
  rw [idxS_def, idxS_def, List.foldl_append]
  rfl
theorem idx_mem : ∀ (n : Nat) (l : EL), l.length = n → (l.map (·.1)).Nodup → ∀ p : List Int × Int, (idxS l).1 p.1 = some p.2 ↔ p ∈ l := by
  intro n
  induction n with
  | zero =>
    intro l hl _ p
    have := List.eq_nil_of_length_eq_zero hl
    subst this
    rw [idxS_def]
    simp
  | succ n ih =>
    intro l hl hnd p
    have hne : l ≠ [] := fun e => by rw [e] at hl; simp at hl
    obtain ⟨A, q, rfl⟩ : ∃ A q, l = A ++ [q] := ⟨l.dropLast, l.getLast hne, (List.dropLast_concat_getLast hne).symm⟩
    rw [List.map_append, List.nodup_append] at hnd
    obtain ⟨h1, _, h3⟩ := hnd
    have hA : A.length = n := by simpa using hl
    have hq : (idxS A).1 q.1 = none := by
      cases hx : (idxS A).1 q.1 with
      | none => rfl
      | some s =>
        have := (ih A hA h1 (q.1, s)).1 hx
        exact absurd rfl (h3 q.1 (List.mem_map.2 ⟨_, this, rfl⟩) q.1 (by simp))
    rw [idxS_snoc', putF_at, hq]
    by_cases e : p.1 = q.1
    · rw [if_pos e]
      simp only [Option.some.injEq, List.mem_append, List.mem_singleton]
      constructor
      · intro h2; exact .inr (Prod.ext e h2.symm)
      · rintro (h2 | h2)
        · exact absurd e (h3 p.1 (List.mem_map.2 ⟨_, h2, rfl⟩) q.1 (by simp))
        · rw [h2]
    · rw [if_neg e, ih A hA h1]
      simp only [List.mem_append, List.mem_singleton]
      constructor
      · exact .inl
      · rintro (h2 | h2)
        · exact h2
        · exact absurd (by rw [h2]) e
/-- A list of that kind is its own list. -/
theorem of_self {E : EL} (h : WL E) : refOf E = E := by
  obtain ⟨f, h⟩ := h
  have h1 := refOf_ok E (fun p hp => ((h.mem p).1 hp).1)
  have h2 := idx_mem E.length E rfl h.nodup
  have h3 : Lists (idxS E).1 E := ⟨fun p => by
    constructor
    · intro hp; exact ⟨((h.mem p).1 hp).1, (h2 p).2 hp⟩
    · rintro ⟨_, hp⟩; exact (h2 p).1 hp, h.sorted, fun d t hd e => ((h.mem _).1 ((h2 (d, t)).1 e)).1.exp⟩
  exact h1.eq h3
def hasE (E : EL) (d : List Int) (now : Int) : Bool := E.any fun p => decide (p.1 = d) && decide (now ≤ p.2)
theorem Lists.hasq {F : List Int → Option Int} {W : EL} (h : Lists F W) {d : List Int} (hd : DigOk d) (now : Int) : hasE W d now = ((F d).isSome && decide (now ≤ (F d).getD 0)) := by
  unfold hasE
  cases hf : F d with
  | none =>
    rw [Option.isSome_none, Bool.false_and, List.any_eq_false]
    intro p hp
    have := ((h.mem p).1 hp).2
    simp only [Bool.and_eq_true, decide_eq_true_eq, not_and]
    rintro rfl
    rw [hf] at this
    cases this
  | some t =>
    simp only [Option.isSome_some, Option.getD_some, Bool.true_and]
    by_cases ht : now ≤ t
    · rw [decide_eq_true ht, List.any_eq_true]
      exact ⟨(d, t), (h.mem _).2 ⟨⟨hd, h.exp d t hd hf⟩, hf⟩, by simp [ht]⟩
    · rw [decide_eq_false ht, List.any_eq_false]
      intro p hp
      have := ((h.mem p).1 hp).2
      simp only [Bool.and_eq_true, decide_eq_true_eq, not_and]
      rintro rfl
      rw [hf] at this
      injection this with this
      omega
theorem has_live (E : EL) (d : List Int) (now : Int) : hasE (liveL E now) d now = hasE E d now := by
  unfold hasE liveL
  rw [List.any_filter]
  congr 1
  funext p
  cases h1 : decide (now ≤ p.2) <;> cases h2 : decide (p.1 = d) <;> rfl
theorem le_has {A B : EL} {now : Int} (h : liveL A now = liveL B now) (d : List Int) : hasE A d now = hasE B d now := by
  rw [← has_live A, ← has_live B, h]
theorem liveL_len (E : EL) (now : Int) : (liveL E now).length ≤ E.length := List.length_filter_le ..
end Go.Proofs.YtombncedfleljaaGreat
namespace Go.Proofs
open Go.Shelf
def Tryz.sortEnt_ren : Go.Shelf.Ren := ⟨fun | 6 => 59 | 15 => 84 | 14 => 83 | 28 => 114 | 29 => 115 | 20 => 106 | 21 => 107 | 22 => 108 | 23 => 109 | 24 => 110 | 25 => 111 | 26 => 112 | 27 => 113 | 46 => 135 | 47 => 136 | 48 => 137 | 49 => 138 | 50 => 139 | 57 => 156 | n => n, fun | 22 => 28 | 24 => 35 | 25 => 88 | 3 => 3 | 39 => 104 | 0 => 0 | 53 => 59 | 55 => 80 | 4 => 4 | 46 => 184 | 45 => 183 | 50 => 188 | 5 => 5 | 9 => 9 | 66 => 219 | 70 => 223 | 76 => 242 | 77 => 243 | n => n, fun | n => n⟩
theorem Tryz.sortEnt : Go.Proofs.SlLaysF0.n6 Tryz.prog Tryz.sortEnt_ren := {
  mixed := by kernel_rfl
  f6 := ⟨Tryz.f59.name, by decide, Tryz.func59.trans (congrArg some (by kernel_rfl))⟩
  f14 := ⟨Tryz.f83.name, by decide, Tryz.func83.trans (congrArg some (by kernel_rfl))⟩
  f15 := Tryz.func84.trans (congrArg some (by kernel_rfl))
  f20 := ⟨Tryz.f106.name, by decide, Tryz.func106.trans (congrArg some (by kernel_rfl))⟩
  f21 := ⟨Tryz.f107.name, by decide, Tryz.func107.trans (congrArg some (by kernel_rfl))⟩
  f22 := ⟨Tryz.f108.name, by decide, Tryz.func108.trans (congrArg some (by kernel_rfl))⟩
  f23 := ⟨Tryz.f109.name, by decide, Tryz.func109.trans (congrArg some (by kernel_rfl))⟩
  f24 := ⟨Tryz.f110.name, by decide, Tryz.func110.trans (congrArg some (by kernel_rfl))⟩
  f25 := ⟨Tryz.f111.name, by decide, Tryz.func111.trans (congrArg some (by kernel_rfl))⟩
  f26 := ⟨Tryz.f112.name, by decide, Tryz.func112.trans (congrArg some (by kernel_rfl))⟩
  f27 := ⟨Tryz.f113.name, by decide, Tryz.func113.trans (congrArg some (by kernel_rfl))⟩
  f28 := Tryz.func114.trans (congrArg some (by kernel_rfl))
  f29 := Tryz.func115.trans (congrArg some (by kernel_rfl))
  f46 := ⟨Tryz.f135.name, by decide, Tryz.func135.trans (congrArg some (by kernel_rfl))⟩
  f47 := Tryz.func136.trans (congrArg some (by kernel_rfl))
  f48 := Tryz.func137.trans (congrArg some (by kernel_rfl))
  f49 := ⟨Tryz.f138.name, by decide, Tryz.func138.trans (congrArg some (by kernel_rfl))⟩
  f50 := ⟨Tryz.f139.name, by decide, Tryz.func139.trans (congrArg some (by kernel_rfl))⟩
  f57 := ⟨Tryz.f156.name, by decide, Tryz.func156.trans (congrArg some (by kernel_rfl))⟩
  t0 := Tryz.underlying0
  a0 := Tryz.isAgg0
  z0 := Tryz.sizeOf0
  v0 := Tryz.zeroValue0
  t3 := Tryz.underlying3
  a3 := Tryz.isAgg3
  z3 := Tryz.sizeOf3
  v3 := Tryz.zeroValue3
  t4 := Tryz.underlying4
  a4 := Tryz.isAgg4
  z4 := Tryz.sizeOf4
  v4 := Tryz.zeroValue4
  t5 := Tryz.underlying5
  a5 := Tryz.isAgg5
  z5 := Tryz.sizeOf5
  v5 := Tryz.zeroValue5
  t9 := Tryz.underlying9
  a9 := Tryz.isAgg9
  z9 := Tryz.sizeOf9
  v9 := Tryz.zeroValue9
  t22 := Tryz.underlying28
  a22 := Tryz.isAgg28
  z22 := Tryz.sizeOf28
  v22 := Tryz.zeroValue28
  t25 := Tryz.underlying88
  a25 := Tryz.isAgg88
  z25 := Tryz.sizeOf88
  v25 := Tryz.zeroValue88
  t39 := Tryz.underlying104
  a39 := Tryz.isAgg104
  z39 := Tryz.sizeOf104
  v39 := Tryz.zeroValue104
  t45 := Tryz.underlying183
  a45 := Tryz.isAgg183
  z45 := Tryz.sizeOf183
  v45 := Tryz.zeroValue183
  t46 := Tryz.underlying184
  a46 := Tryz.isAgg184
  z46 := Tryz.sizeOf184
  v46 := Tryz.zeroValue184
  t50 := Tryz.underlying188
  a50 := Tryz.isAgg188
  z50 := Tryz.sizeOf188
  v50 := Tryz.zeroValue188
  t53 := Tryz.underlying59
  a53 := Tryz.isAgg59
  z53 := Tryz.sizeOf59
  v53 := Tryz.zeroValue59
  t55 := Tryz.underlying80
  a55 := Tryz.isAgg80
  z55 := Tryz.sizeOf80
  v55 := Tryz.zeroValue80
  t66 := Tryz.underlying219
  a66 := Tryz.isAgg219
  z66 := Tryz.sizeOf219
  v66 := Tryz.zeroValue219
  t70 := Tryz.underlying223
  a70 := Tryz.isAgg223
  z70 := Tryz.sizeOf223
  v70 := Tryz.zeroValue223
  t76 := Tryz.underlying242
  a76 := Tryz.isAgg242
  z76 := Tryz.sizeOf242
  v76 := Tryz.zeroValue242
  t77 := Tryz.underlying243
  a77 := Tryz.isAgg243
  z77 := Tryz.sizeOf243
  v77 := Tryz.zeroValue243 }
end Go.Proofs
