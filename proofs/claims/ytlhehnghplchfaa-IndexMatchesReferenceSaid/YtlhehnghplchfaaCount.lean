/- The count of an index is the number of its digests. -/
import Derived.Test.YtlhehnghplchfaaPerm
namespace Go.Proofs.Ytlhehnghplchfaa
open Go.RowKit
theorem DM.dropped {w : World} {b n c : Nat} {f : List Int → Option Int} (h : DM w b n f c) {d : List Int} (hd : DigOk d) : ∃ w' c', DM w' b n (cut f d) c' ∧ c' + (if (f d).isSome then 1 else 0) = c := by
  obtain ⟨D, hown, hf⟩ := h
  obtain ⟨w', _, h', _⟩ := hown.drop keyed Try.underlying53 (keyOf_mk hd) 0
  obtain ⟨c', hf', e⟩ := hf.del (hown.tidy keyed) hd
  exact ⟨w', c', ⟨_, h', hf'⟩, e⟩
theorem DM.count (b n : Nat) : ∀ (K : List (List Int)) (w : World) (f : List Int → Option Int) (c : Nat), DM w b n f c → (∀ d ∈ K, DigOk d) → K.Nodup → (∀ d, DigOk d → ((f d).isSome = true ↔ d ∈ K)) → c = K.length
  | [], w, f, c, h, _, _, hf => h.zero fun d hd => by
    cases h1 : f d with
    | none => rfl
    | some t =>
      have := (hf d hd).1 (by rw [h1]; rfl)
      simp at this
  | d :: K, w, f, c, h, hok, hnd, hf => by
    rw [List.nodup_cons] at hnd
    have hd := hok d (by simp)
    obtain ⟨w', c', h', e⟩ := h.dropped hd
    rw [if_pos ((hf d hd).2 (by simp))] at e
    have := DM.count b n K w' (cut f d) c' h' (fun x hx => hok x (by simp [hx])) hnd.2 (fun x hx => by
      unfold cut
      by_cases hxd : x = d
      · subst hxd
        simp [hnd.1]
      · rw [if_neg hxd, hf x hx]
        simp [hxd])
    simp only [List.length_cons]
    omega
/-- L is the index f's list: its entries, in order. -/
structure Lists (f : List Int → Option Int) (L : List (List Int × Int)) : Prop where
  mem : ∀ p : List Int × Int, p ∈ L ↔ EntOk p ∧ f p.1 = some p.2
  sorted : L.Pairwise (fun p q => cmpE p q < 0)
  exp : ∀ d t, DigOk d → f d = some t → isI64 t
theorem liveF_some {f : List Int → Option Int} {now : Int} {d : List Int} {t : Int} (h : liveF f now d = some t) : f d = some t := by
  unfold liveF at h
  cases hf : f d with
  | none => rw [hf] at h; cases h
  | some s =>
    rw [hf] at h
    simp only at h
    split at h
    · cases h
    · exact h
theorem Lists.nodup {f : List Int → Option Int} {L : List (List Int × Int)} (h : Lists f L) : (L.map (·.1)).Nodup := by
  rw [List.nodup_iff_pairwise_ne, List.pairwise_map]
  have hs : L.Pairwise (fun p q => p ≠ q) := h.sorted.imp fun {p q} hpq e => by
    subst e
    have := (cmpE_zero p p).2 rfl
    omega
  refine List.Pairwise.imp_of_mem (fun {p q} hp hq hne e => ?_) hs
  have h1 := ((h.mem p).1 hp).2
  have h2 := ((h.mem q).1 hq).2
  rw [e, h2] at h1
  injection h1 with h1
  exact hne (Prod.ext e h1.symm)
theorem Lists.count {f : List Int → Option Int} {L : List (List Int × Int)} (h : Lists f L) {w : World} {b n c : Nat} (hm : DM w b n f c) : c = L.length := by
  have := DM.count b n (L.map (·.1)) w f c hm (fun d hd => by
    obtain ⟨p, hp, rfl⟩ := List.mem_map.1 hd
    exact ((h.mem p).1 hp).1.dig) h.nodup (fun d hd => by
    constructor
    · intro hs
      obtain ⟨t, ht⟩ := Option.isSome_iff_exists.1 hs
      exact List.mem_map.2 ⟨(d, t), (h.mem _).2 ⟨⟨hd, hm.i64 hd ht⟩, ht⟩, rfl⟩
    · intro hs
      obtain ⟨p, hp, rfl⟩ := List.mem_map.1 hs
      rw [((h.mem p).1 hp).2]
      rfl)
  rw [this, List.length_map]
theorem Lists.eq {f : List Int → Option Int} {L M : List (List Int × Int)} (h : Lists f L) (h' : Lists f M) : L = M :=
  sorted_unique L M h.sorted h'.sorted fun p => by rw [h.mem, h'.mem]
/-- The entries that are live. -/
def liveL (l : List (List Int × Int)) (now : Int) : List (List Int × Int) := l.filter fun p => decide (now ≤ p.2)
theorem Lists.live {f : List Int → Option Int} {L : List (List Int × Int)} (h : Lists f L) (now : Int) : Lists (liveF f now) (liveL L now) where
  mem p := by
    unfold liveL
    rw [List.mem_filter, h.mem p]
    unfold liveF
    simp only [decide_eq_true_eq]
    cases hf : f p.1 with
    | none => simp
    | some t =>
      simp only [Option.some.injEq]
      constructor
      · rintro ⟨⟨h1, h2⟩, h3⟩
        subst h2
        exact ⟨h1, by rw [if_neg (by omega)]⟩
      · rintro ⟨h1, h2⟩
        by_cases ht : t < now
        · rw [if_pos ht] at h2; cases h2
        · rw [if_neg ht] at h2
          injection h2 with h2
          exact ⟨⟨h1, h2⟩, by omega⟩
  sorted := h.sorted.sublist List.filter_sublist
  exp d t hd ht := h.exp d t hd (liveF_some ht)
/-- What Live answers. -/
theorem Lists.of_live {f : List Int → Option Int} {now : Int} {L : List (List Int × Int)} (h : ∀ p : List Int × Int, p ∈ L ↔ EntOk p ∧ f p.1 = some p.2 ∧ now ≤ p.2) (hs : L.Pairwise (fun p q => cmpE p q < 0)) (hi : ∀ d t, DigOk d → f d = some t → isI64 t) : Lists (liveF f now) L where
  mem p := by
    rw [h p]
    unfold liveF
    cases hf : f p.1 with
    | none => simp
    | some t =>
      simp only [Option.some.injEq]
      constructor
      · rintro ⟨h1, h2, h3⟩
        subst h2
        exact ⟨h1, by rw [if_neg (by omega)]⟩
      · rintro ⟨h1, h2⟩
        by_cases ht : t < now
        · rw [if_pos ht] at h2; cases h2
        · rw [if_neg ht] at h2
          injection h2 with h2
          exact ⟨h1, h2, by omega⟩
  sorted := hs
  exp d t hd ht := hi d t hd (liveF_some ht)
theorem Lists.congr {f g : List Int → Option Int} {L : List (List Int × Int)} (h : Lists f L) (e : ∀ d, DigOk d → f d = g d) : Lists g L where
  mem p := by
    rw [h.mem p]
    constructor
    · rintro ⟨h1, h2⟩; exact ⟨h1, by rw [← e _ h1.dig]; exact h2⟩
    · rintro ⟨h1, h2⟩; exact ⟨h1, by rw [e _ h1.dig]; exact h2⟩
  sorted := h.sorted
  exp d t hd ht := h.exp d t hd (by rw [e d hd]; exact ht)
theorem liveF_live (f : List Int → Option Int) {now later : Int} (h : now ≤ later) : liveF (liveF f now) later = liveF f later := by
  funext d
  unfold liveF
  cases f d with
  | none => rfl
  | some t =>
    by_cases h1 : t < now
    · simp only [if_pos h1, if_pos (show t < later by omega)]
    · simp only [if_neg h1]
end Go.Proofs.Ytlhehnghplchfaa
