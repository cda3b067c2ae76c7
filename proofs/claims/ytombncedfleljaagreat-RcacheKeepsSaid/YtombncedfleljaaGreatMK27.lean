/- Parts: Plain: sectors behind a crash; a live log on them; what Open finds. | Plain: a log and its disk through appends, rewrites, crashes and openings. | Plain: appending to a log, and rewriting it. | Plain: rewriting a log. -/
import Derived.Test.YtombncedfleljaaGreatMK26
namespace Go.Proofs.YtombncedfleljaaGreat
open Go.RowKit
attribute [local irreducible] wpQuiet wpAnyH
set_option linter.unusedSimpArgs false

theorem getD_set (l : List (List Int)) (i j : Nat) (s : List Int) (hi : i < l.length) : (l.set i s).getD j [] = if j = i then s else l.getD j [] := by
  rw [List.getD_eq_getElem?_getD, List.getD_eq_getElem?_getD, List.getElem?_set]
  by_cases h : i = j
  · subst h
    simp [hi]
  · rw [if_neg h, if_neg (fun e => h e.symm)]
theorem getD_mem {l : List (List Int)} {a : Nat} (h : a < l.length) : l.getD a [] ∈ l := by
  rw [List.getD_eq_getElem?_getD, List.getElem?_eq_getElem h]
  exact List.getElem_mem h
theorem mem_getD {l : List (List Int)} {s : List Int} (h : s ∈ l) : ∃ a, a < l.length ∧ l.getD a [] = s := by
  obtain ⟨a, ha, hs⟩ := List.mem_iff_getElem.1 h
  exact ⟨a, ha, by rw [List.getD_eq_getElem?_getD, List.getElem?_eq_getElem ha]; exact hs⟩
theorem ext_getD {l m : List (List Int)} (hl : l.length = m.length) (h : ∀ a, a < m.length → l.getD a [] = m.getD a []) : l = m := by
  apply List.ext_getElem hl
  intro a h1 h2
  have := h a h2
  rw [List.getD_eq_getElem?_getD, List.getD_eq_getElem?_getD, List.getElem?_eq_getElem h1, List.getElem?_eq_getElem h2] at this
  exact this
theorem beN_four (a b c d : Int) : beN [a, b, c, d] = ((a.toNat * 256 + b.toNat) * 256 + c.toNat) * 256 + d.toNat := by
  unfold beN
  simp
theorem drop60 {s : List Int} (h : Sec s) : ∃ a b c d : Int, s.drop 60 = [a, b, c, d] ∧ tagS s = ((a.toNat * 256 + b.toNat) * 256 + c.toNat) * 256 + d.toNat ∧ 0 ≤ a ∧ 0 ≤ b ∧ 0 ≤ c := by
  have hl : (s.drop 60).length = 4 := by rw [List.length_drop, h.1]
  have hb : ∀ x ∈ s.drop 60, 0 ≤ x := fun x hx => (h.2 x (List.mem_of_mem_drop hx)).1
  unfold tagS
  match hs : s.drop 60, hl with
  | [a, b, c, d], _ =>
    rw [hs] at hb
    exact ⟨a, b, c, d, rfl, by rw [← beN_four]; rfl, hb a (by simp), hb b (by simp), hb c (by simp)⟩
theorem small_tag {s : List Int} (h : Sec s) (ht : tagS s < 256) : ∃ d : Int, s.drop 60 = [0, 0, 0, d] := by
  obtain ⟨a, b, c, d, e, et, ha, hb, hc⟩ := drop60 h
  refine ⟨d, ?_⟩
  rw [e]
  have h1 : a = 0 := by omega
  have h2 : b = 0 := by omega
  have h3 : c = 0 := by omega
  rw [h1, h2, h3]
/-- A torn sector is the new one, or has the tag of the old one. -/
theorem tear_tag {old new : List Int} (ho : Sec old) (hn : Sec new) (h1 : tagS old < 256) (h2 : tagS new < 256) (c : Int) : tearL old new c = new ∨ tagS (tearL old new c) = tagS old := by
  rcases Int.lt_or_le c 64 with hc | hc
  · right
    have hk : cutN c ≤ 63 := by unfold cutN; omega
    obtain ⟨x, hx⟩ := small_tag ho h1
    obtain ⟨y, hy⟩ := small_tag hn h2
    have e : (tearL old new c).drop 60 = old.drop 60 := by
      unfold tearL
      rcases Nat.lt_or_ge 60 (cutN c) with hk2 | hk2
      · obtain ⟨j, hj⟩ : ∃ j, cutN c = 60 + j := ⟨cutN c - 60, by omega⟩
        have hj3 : j = 1 ∨ j = 2 ∨ j = 3 := by omega
        rw [List.drop_append, List.drop_take, List.length_take, hn.1, hj, show 60 + j - 60 = j by omega, hy, show 60 - min (60 + j) 64 = 0 by omega, List.drop_zero, ← List.drop_drop, hx]
        rcases hj3 with rfl | rfl | rfl <;> rfl
      · rw [List.drop_append, List.drop_eq_nil_of_le (by rw [List.length_take]; omega), List.nil_append, List.length_take, hn.1, Nat.min_eq_left (by omega), List.drop_drop, show cutN c + (60 - cutN c) = 60 by omega]
    unfold tagS
    rw [e]
  · exact .inl (tearL_all c ho.1 hn.1 hc)
theorem tag_rec (g : Nat) (p : List Int) (hp : p.length ≤ 54) (hg : g < 4294967296) : tagS (rec g p) = g := by
  unfold tagS
  rw [rec_drop60 g p hp, List.take_of_length_le (by rw [beB_length]; exact Nat.le_refl _), beN_beB]
  omega
theorem tag_ent (g : Nat) {q : Ent2} (hq : EntOk q) (hg : g < 4294967296) : tagS (entRec g q) = g := tag_rec g _ (entRec_len hq) hg
theorem tag_head (g : Nat) (hg : g < 4294967296) : tagS (rec g toll) = g := tag_rec g _ (by decide) hg
/-- Sectors that W may have left. -/
def Near (sec : List (List Int)) (W : List (Int × List Int)) (sec' : List (List Int)) : Prop :=
  sec'.length = sec.length ∧ ∀ a : Nat, a < sec.length → sec'.getD a [] = sec.getD a [] ∨ ∃ s, ((a : Int), s) ∈ W ∧ (sec'.getD a [] = s ∨ tagS (sec'.getD a []) = tagS (sec.getD a []))
theorem Near.mono {sec sec' : List (List Int)} {W V : List (Int × List Int)} (h : Near sec W sec') (hs : ∀ p ∈ W, p ∈ V) : Near sec V sec' :=
  ⟨h.1, fun a ha => (h.2 a ha).imp id (fun ⟨s, h1, h2⟩ => ⟨s, hs _ h1, h2⟩)⟩
theorem Near.refl (sec : List (List Int)) (W : List (Int × List Int)) : Near sec W sec := ⟨rfl, fun _ _ => .inl rfl⟩
theorem Near.nil {sec sec' : List (List Int)} (h : Near sec [] sec') : sec' = sec :=
  ext_getD h.1 fun a ha => (h.2 a ha).elim id (fun ⟨_, h1, _⟩ => by cases h1)
theorem near_crash {sec : List (List Int)} {opn : List (Int × List Int)} (hs : ∀ s ∈ sec, Sec s) (ho : ∀ p ∈ opn, 0 ≤ p.1 ∧ p.1 < sec.length ∧ Sec p.2) (hn : (opn.map (·.1)).Nodup) (ht : ∀ s ∈ sec, tagS s < 256) (hto : ∀ p ∈ opn, tagS p.2 < 256) (cl : List Int) : Near sec opn (crashL sec opn cl) := by
  unfold crashL
  generalize (fun j => cl.getD j 0) = cut
  have hinj : ∀ i j (hi : i < opn.length) (hj : j < opn.length), opn[i].1 = opn[j].1 → i = j := fun i j hi hj e => by
    rw [List.nodup_iff_pairwise_ne, List.pairwise_map, List.pairwise_iff_getElem] at hn
    rcases Nat.lt_trichotomy i j with h | h | h
    · exact absurd e (hn i j hi hj h)
    · exact h
    · exact absurd e.symm (hn j i hj hi h)
  have key : ∀ j, j ≤ opn.length → ∀ a : Nat, a < sec.length → ((∀ i (hi : i < opn.length), i < j → opn[i].1 ≠ a) → (tornN cut sec opn j).getD a [] = sec.getD a []) ∧ (∀ i (hi : i < opn.length), i < j → opn[i].1 = a → (tornN cut sec opn j).getD a [] = opn[i].2 ∨ tagS ((tornN cut sec opn j).getD a []) = tagS (sec.getD a [])) := by
    intro j
    induction j with
    | zero => exact fun _ a _ => ⟨fun _ => rfl, fun i _ h => by omega⟩
    | succ j ih =>
      intro hj a ha
      have hlt : j < opn.length := by omega
      have hp := ho _ (List.getElem_mem hlt)
      have hk : opn[j].1.toNat < (tornN cut sec opn j).length := by rw [tornN_len]; omega
      have hgd : opn.getD j (0, []) = opn[j] := by simp [hlt]
      rw [tornN, hgd, getD_set _ _ _ _ hk]
      obtain ⟨i1, i2⟩ := ih (by omega) a ha
      by_cases hak : a = opn[j].1.toNat
      · rw [if_pos hak]
        have hka : opn[j].1 = a := by omega
        refine ⟨fun hno => absurd hka (hno j hlt (by omega)), fun i hi hij he => ?_⟩
        have hij2 : i = j := hinj i j hi hlt (he.trans hka.symm)
        subst hij2
        have hold := i1 (fun i' hi' hlt' he' => by have := hinj i' i hi' hi (he'.trans hka.symm); omega)
        rw [← hak, hold]
        exact tear_tag (hs _ (getD_mem ha)) hp.2.2 (ht _ (getD_mem ha)) (hto _ (List.getElem_mem hlt)) _
      · rw [if_neg hak]
        refine ⟨fun hno => i1 (fun i hi hij => hno i hi (by omega)), fun i hi hij he => i2 i hi ?_ he⟩
        rcases Nat.lt_or_ge i j with h | h
        · exact h
        · have : i = j := by omega
          subst this
          omega
  refine ⟨tornN_len _ _ _ _, fun a ha => ?_⟩
  obtain ⟨k1, k2⟩ := key opn.length (Nat.le_refl _) a ha
  by_cases hex : ∃ i, ∃ hi : i < opn.length, opn[i].1 = a
  · obtain ⟨i, hi, he⟩ := hex
    exact .inr ⟨opn[i].2, by rw [← he]; exact List.getElem_mem hi, k2 i hi hi he⟩
  · exact .inl (k1 (fun i hi _ he => hex ⟨i, hi, he⟩))
theorem Near.tags {sec sec' : List (List Int)} {W : List (Int × List Int)} {K : Nat} (h : Near sec W sec') (ht : ∀ s ∈ sec, tagS s ≤ K) (hw : ∀ p ∈ W, tagS p.2 ≤ K) : ∀ s ∈ sec', tagS s ≤ K := by
  intro s hs
  obtain ⟨a, ha, rfl⟩ := mem_getD hs
  rw [h.1] at ha
  rcases h.2 a ha with e | ⟨t, h1, e | e⟩
  · rw [e]; exact ht _ (getD_mem ha)
  · rw [e]; exact hw _ h1
  · rw [e]; exact ht _ (getD_mem ha)
/-- A live log: the slot of side s has a header of generation g and these entries. -/
structure Live (sec : List (List Int)) (h s g : Nat) (es : List Ent2) : Prop where
  s2 : s < 2
  ln : h + h ≤ sec.length
  fit : es.length + 1 ≤ h
  g4 : g < 4294967296
  hd : sec.getD (sFrom h s) [] = rec g toll
  en : ∀ i (hi : i < es.length), sec.getD (sFrom h s + 1 + i) [] = entRec g es[i]
  eo : ∀ q ∈ es, EntOk q ∧ rightE q = true
  nx : ∀ i, es.length ≤ i → i + 1 < h → tagS (sec.getD (sFrom h s + 1 + i) []) ≠ g
  ot : tagS (sec.getD (sFrom h (1 - s)) []) < g
theorem sFrom_le (h s : Nat) (hs : s < 2) : sFrom h s = s * h := by
  unfold sFrom
  have : s = 0 ∨ s = 1 := by omega
  rcases this with rfl | rfl <;> simp
theorem drop_getD (sec : List (List Int)) (f h i : Nat) (hi : i < h) (_ : f + h ≤ sec.length) : ((sec.drop f).take h).getD i [] = sec.getD (f + i) [] := by
  rw [List.getD_eq_getElem?_getD, List.getD_eq_getElem?_getD, List.getElem?_take_of_lt hi, List.getElem?_drop]
theorem scan_live {sec : List (List Int)} {h s g : Nat} {es : List Ent2} (l : Live sec h s g es) : scanL (none, []) ((sec.drop (sFrom h s)).take h) = (some g, es) := by
  obtain ⟨f, hf⟩ : ∃ f, f = sFrom h s := ⟨_, rfl⟩
  have hfl : f + h ≤ sec.length := by
    have := l.ln; have := l.s2
    rw [hf]; unfold sFrom; split <;> omega
  have h1 := l.fit
  have hL : ((sec.drop f).take h).length = h := by rw [List.length_take, List.length_drop]; omega
  obtain ⟨R, hR⟩ : ∃ R, R = ((sec.drop f).take h).drop (es.length + 1) := ⟨_, rfl⟩
  have hRl : R.length = h - (es.length + 1) := by rw [hR, List.length_drop, hL]
  have e : (sec.drop f).take h = rec g toll :: (es.map (entRec g) ++ R) := by
    apply ext_getD
    · rw [hL, List.length_cons, List.length_append, List.length_map, hRl]; omega
    · intro a ha
      have ha2 : a < h := by rw [List.length_cons, List.length_append, List.length_map, hRl] at ha; omega
      rw [drop_getD _ _ _ _ ha2 hfl]
      match a with
      | 0 => rw [Nat.add_zero, hf, l.hd]; rfl
      | a + 1 =>
        show _ = (es.map (entRec g) ++ R).getD a []
        rcases Nat.lt_or_ge a es.length with hlt | hge
        · have h2 := l.en a hlt
          rw [← hf] at h2
          rw [show f + (a + 1) = f + 1 + a by omega, h2, List.getD_eq_getElem?_getD, List.getElem?_append_left (by rw [List.length_map]; exact hlt)]
          simp [hlt]
        · rw [List.getD_eq_getElem?_getD (l := es.map (entRec g) ++ R), List.getElem?_append_right (by rw [List.length_map]; exact hge), List.length_map, hR, List.getElem?_drop, ← List.getD_eq_getElem?_getD, show es.length + 1 + (a - es.length) = a + 1 by omega, drop_getD _ _ _ _ ha2 hfl]
  rw [← hf, e, scan_head g l.g4, scan_ents g l.g4 es [] _ l.eo, List.nil_append]
  cases hr : R with
  | nil => rfl
  | cons x R' =>
    have hx : x = sec.getD (f + 1 + es.length) [] := by
      have h2 : R.getD 0 [] = x := by rw [hr]; rfl
      have hlt : 0 < R.length := by rw [hr]; simp
      rw [← h2, hR, List.getD_eq_getElem?_getD, List.getElem?_drop, ← List.getD_eq_getElem?_getD, drop_getD _ _ _ _ (by omega) hfl]
      congr 1
      omega
    have hnx := l.nx es.length (Nat.le_refl _) (by have : 0 < R.length := by rw [hr]; simp
                                                   omega)
    refine scan_stop (fun g' e' hp he => hnx ?_)
    rw [← hf, ← hx, ← he]
    exact (prsE_gen hp).symm
theorem scan_gen {L : List (List Int)} {g : Nat} (h : (scanL (none, []) L).1 = some g) : ∃ x, L.head? = some x ∧ prsH x = some g := by
  cases L with
  | nil => simp [scanL] at h
  | cons x L =>
    rw [scanL] at h
    unfold stepS at h
    simp only at h
    cases hp : prsH x with
    | none => rw [hp] at h; simp at h
    | some g2 =>
      rw [hp] at h
      simp only [Option.map_some] at h
      have hk : ∀ (L : List (List Int)) (es : List Ent2), (scanL (some g2, es) L).1 = some g2 := fun L es => by
        obtain ⟨more, hm, _⟩ := scan_longer g2 L es
        rw [hm]
      rw [hk] at h
      exact ⟨x, rfl, hp.trans h⟩
theorem prsH_tag {s : List Int} {g : Nat} (h : prsH s = some g) : tagS s = g := by
  unfold prsH at h
  cases hp : prs s with
  | none => rw [hp] at h; cases h
  | some x =>
    obtain ⟨g', p⟩ := x
    rw [hp] at h
    simp only at h
    split at h
    · injection h with h
      subst h
      exact (prs_gen hp).symm
    · cases h
/-- The other slot of a live log has a lesser generation, or none. -/
theorem scan_other {sec : List (List Int)} {h s g : Nat} {es : List Ent2} (l : Live sec h s g es) : ∀ g', (scanL (none, []) ((sec.drop (sFrom h (1 - s))).take h)).1 = some g' → g' < g := by
  intro g' hg
  obtain ⟨x, hx, hp⟩ := scan_gen hg
  have hfit := l.fit
  have hln := l.ln
  have hx2 : x = sec.getD (sFrom h (1 - s)) [] := by
    have hfl : sFrom h (1 - s) + h ≤ sec.length := by unfold sFrom; split <;> omega
    have := drop_getD sec (sFrom h (1 - s)) h 0 (by omega) hfl
    rw [Nat.add_zero] at this
    rw [← this, List.getD_eq_getElem?_getD, ← List.head?_eq_getElem?, hx]
    rfl
  have h1 := prsH_tag hp
  have h2 := l.ot
  rw [← hx2] at h2
  omega
theorem openF_live {d : DiskD} {s g : Nat} {es : List Ent2} (l : Live d.sec (d.sec.length / 2) s g es) : openF d = (some es, ⟨s, lastN d d.sec.length, g, es.length, false⟩) := by
  have h1 := scan_live l
  have h2 := scan_other l
  unfold openF
  generalize d.sec.length / 2 = h at *
  have hs := l.s2
  have hs2 : s = 0 ∨ s = 1 := by omega
  rcases hs2 with rfl | rfl
  · have e1 : fAt d h ⟨0, lastN d d.sec.length, 0, 0, false⟩ 1 = (some es, ⟨0, lastN d d.sec.length, g, es.length, false⟩) := by
      show fNext 0 (slotS d (sFrom h 0) h) (none, _) = _
      have e : slotS d (sFrom h 0) h = (some g, es) := h1
      rw [fNext_new (g := g) (by rw [e]) (.inl rfl), e]
    show fNext 1 (slotS d (sFrom h 1) h) (fAt d h _ 1) = _
    rw [e1]
    cases hg : (slotS d (sFrom h 1) h).1 with
    | none => exact fNext_none hg
    | some g' => exact fNext_old hg rfl (Nat.le_of_lt (h2 g' hg))
  · have e1 : (fAt d h ⟨0, lastN d d.sec.length, 0, 0, false⟩ 1).1 = none ∨ (fAt d h ⟨0, lastN d d.sec.length, 0, 0, false⟩ 1).2.gen < g := by
      show (fNext 0 (slotS d (sFrom h 0) h) (none, _)).1 = none ∨ (fNext 0 (slotS d (sFrom h 0) h) (none, _)).2.gen < g
      cases hg : (slotS d (sFrom h 0) h).1 with
      | none => rw [fNext_none hg]; exact .inl rfl
      | some g' => rw [fNext_new hg (.inl rfl)]; exact .inr (h2 g' hg)
    have e2 : (fAt d h ⟨0, lastN d d.sec.length, 0, 0, false⟩ 1).2.last = lastN d d.sec.length ∧ (fAt d h ⟨0, lastN d d.sec.length, 0, 0, false⟩ 1).2.brk = false := by
      show (fNext 0 (slotS d (sFrom h 0) h) (none, _)).2.last = _ ∧ (fNext 0 (slotS d (sFrom h 0) h) (none, _)).2.brk = _
      cases hg : (slotS d (sFrom h 0) h).1 with
      | none => rw [fNext_none hg]; exact ⟨rfl, rfl⟩
      | some g' => rw [fNext_new hg (.inl rfl)]; exact ⟨rfl, rfl⟩
    show fNext 1 (slotS d (sFrom h 1) h) (fAt d h _ 1) = _
    have e : slotS d (sFrom h 1) h = (some g, es) := h1
    rw [fNext_new (g := g) (by rw [e]) e1, e]
    show (some es, LogD.mk 1 (fAt d h _ 1).2.last g es.length (fAt d h _ 1).2.brk) = _
    rw [e2.1, e2.2]
theorem rdS_still {d : DiskD} (hd : d.down = false) (ho : d.opn = []) (i : Nat) (hi : i < d.sec.length) : rdS d i = d.sec.getD i [] := by
  unfold rdS rdD hasB
  rw [hd, ho]
  simp
  omega
theorem lastN_ge {d : DiskD} (hd : d.down = false) (ho : d.opn = []) : ∀ k, k ≤ d.sec.length → ∀ i, i < k → tagS (d.sec.getD i []) ≤ lastN d k
  | 0, _, i, h => by omega
  | k + 1, hk, i, h => by
    unfold lastN
    rcases Nat.lt_or_ge i k with h1 | h1
    · have := lastN_ge hd ho k (by omega) i h1
      omega
    · have : i = k := by omega
      subst this
      rw [rdS_still hd ho i (by omega)]
      omega
theorem lastN_le {d : DiskD} (hd : d.down = false) (ho : d.opn = []) (K : Nat) (ht : ∀ s ∈ d.sec, tagS s ≤ K) : ∀ k, k ≤ d.sec.length → lastN d k ≤ K
  | 0, _ => Nat.zero_le _
  | k + 1, hk => by
    unfold lastN
    have h1 := lastN_le hd ho K ht k (by omega)
    rw [rdS_still hd ho k (by omega)]
    have h2 := ht _ (getD_mem (show k < d.sec.length by omega))
    omega
end Go.Proofs.YtombncedfleljaaGreat
namespace Go.Proofs.YtombncedfleljaaGreat
open Go.RowKit
attribute [local irreducible] wpQuiet wpAnyH
set_option linter.unusedSimpArgs false

/-- The sectors of a disk whose first header is not there yet. -/
def part1 (c : Nat) : List Int := (rec 1 toll).take c ++ zsec.drop c
structure Fresh (sec : List (List Int)) (h : Nat) : Prop where
  h1 : 1 ≤ h
  ln : h + h ≤ sec.length
  ex : ∃ c, c < 64 ∧ sec.getD 0 [] = part1 c
  zs : ∀ a, 0 < a → a < sec.length → sec.getD a [] = zsec
set_option maxRecDepth 100000 in
theorem part1_all : (List.range 64).all (fun c => (prsH (part1 c)).isNone && (tagS (part1 c) == 0)) = true := by kernel_rfl
theorem part1_none {c : Nat} (h : c < 64) : prsH (part1 c) = none ∧ tagS (part1 c) = 0 := by
  have := List.all_eq_true.1 part1_all c (List.mem_range.2 h)
  simpa using this
theorem rec1_len : (rec 1 toll).length = 64 := rec_length 1 toll (by decide)
theorem zsec_len : zsec.length = 64 := by simp [zsec]
theorem part1_tear (c : Nat) (hc : c < 64) (k : Int) : tearL (part1 c) (rec 1 toll) k = rec 1 toll ∨ ∃ c', c' < 64 ∧ tearL (part1 c) (rec 1 toll) k = part1 c' := by
  have h1 := rec1_len
  have hz := zsec_len
  have hp : (part1 c).length = 64 := by unfold part1; rw [List.length_append, List.length_take, List.length_drop, h1, hz]; omega
  rcases Int.lt_or_le k 64 with hk | hk
  · right
    have hk2 : cutN k ≤ 63 := by unfold cutN; omega
    obtain ⟨j, hj⟩ : ∃ j, j = cutN k := ⟨_, rfl⟩
    rw [← hj] at hk2
    rcases Nat.lt_or_ge j c with h | h
    · refine ⟨c, hc, ?_⟩
      unfold tearL part1
      rw [← hj, List.drop_append, List.length_take, h1, show j - min c 64 = 0 by omega, List.drop_zero, ← List.append_assoc, List.drop_take]
      congr 1
      rw [show c = j + (c - j) by omega, List.take_add, show j + (c - j) - j = c - j by omega]
    · refine ⟨j, by omega, ?_⟩
      unfold tearL part1
      rw [← hj, List.drop_append, List.drop_eq_nil_of_le (by rw [List.length_take]; omega), List.nil_append, List.length_take, h1, List.drop_drop, show c + (j - min c 64) = j by omega]
  · exact .inl (tearL_all k hp h1 hk)
def Good (P : Nat → List Ent2 → Prop) (h : Nat) (sec : List (List Int)) : Prop := (∃ s g es, Live sec h s g es ∧ P g es) ∨ (Fresh sec h ∧ P 0 [])
theorem Good.imp {P P' : Nat → List Ent2 → Prop} {h : Nat} {sec : List (List Int)} (k : Good P h sec) (hp : ∀ g es, P g es → P' g es) : Good P' h sec :=
  Or.imp (fun ⟨s, g, es, h1, h2⟩ => ⟨s, g, es, h1, hp _ _ h2⟩) (fun ⟨h1, h2⟩ => ⟨h1, hp _ _ h2⟩) k
/-- An open log that is not broken, and its disk. -/
structure SA (P : Nat → List Ent2 → Prop) (N K : Nat) (d : DiskD) (L : LogD) (es : List Ent2) : Prop where
  brk : L.brk = false
  opn : d.opn = []
  len : d.sec.length = N
  lv : Live d.sec (N / 2) L.side L.gen es
  cnt : L.cnt = es.length
  p : P L.gen es
  tg : ∀ s ∈ d.sec, tagS s ≤ max L.last L.gen
  k : max L.last L.gen ≤ K
/-- A disk that any crash leaves with a log. -/
structure SB (P : Nat → List Ent2 → Prop) (N K : Nat) (d : DiskD) : Prop where
  nd : (d.opn.map (·.1)).Nodup
  len : d.sec.length = N
  tg : ∀ s ∈ d.sec, tagS s ≤ K
  tw : ∀ p ∈ d.opn, tagS p.2 ≤ K
  gd : ∀ cl, Good P (N / 2) (crashL d.sec d.opn cl)
theorem crash_nil (sec : List (List Int)) (cl : List Int) : crashL sec [] cl = sec := by unfold crashL; rfl
theorem crash_one' (sec : List (List Int)) (a : Nat) (s : List Int) (cl : List Int) : crashL sec [((a : Int), s)] cl = sec.set a (tearL (sec.getD a []) s (cl.getD 0 0)) := by
  unfold crashL
  simp [tornN]
theorem crash_wholeL (sec : List (List Int)) (opn : List (Int × List Int)) (hsec : ∀ s ∈ sec, Sec s) (hopn : ∀ p ∈ opn, 0 ≤ p.1 ∧ p.1 < sec.length ∧ Sec p.2) : ∃ cl, crashL sec opn cl = syncN sec opn opn.length := by
  refine ⟨List.replicate opn.length 64, ?_⟩
  unfold crashL
  have key : ∀ j, j ≤ opn.length → tornN (fun j => (List.replicate opn.length 64).getD j 0) sec opn j = syncN sec opn j := by
    intro j
    induction j with
    | zero => exact fun _ => rfl
    | succ j ih =>
      intro hj
      have hlt : j < opn.length := by omega
      have hp := hopn _ (List.getElem_mem hlt)
      have hgd : opn.getD j (0, []) = opn[j] := by simp [hlt]
      have h64 : (List.replicate opn.length (64 : Int)).getD j 0 = 64 := by simp [hlt]
      rw [tornN, syncN, ih (by omega), hgd, h64]
      have hl : opn[j].1.toNat < (syncN sec opn j).length := by rw [syncN_len]; omega
      have hs : Sec ((syncN sec opn j).getD opn[j].1.toNat []) := by
        rw [← ih (by omega)]
        exact tornN_sec _ sec opn hsec hopn j (by omega) _ (by
          have h2 : opn[j].1.toNat < (tornN (fun j => (List.replicate opn.length 64).getD j 0) sec opn j).length := by rw [tornN_len]; omega
          exact getD_mem h2)
      rw [tearL_all 64 hs.1 hp.2.2.1 (by omega)]
  exact key _ (Nat.le_refl _)
theorem SA.sb {P : Nat → List Ent2 → Prop} {N K : Nat} {d : DiskD} {L : LogD} {es : List Ent2} (h : SA P N K d L es) : SB P N K d where
  nd := by rw [h.opn]; exact List.nodup_nil
  len := h.len
  tg := fun s hs => Nat.le_trans (h.tg s hs) h.k
  tw := fun p hp => by rw [h.opn] at hp; cases hp
  gd := fun cl => by rw [h.opn, crash_nil]; exact .inl ⟨_, _, _, h.lv, h.p⟩
theorem SB.imp {P P' : Nat → List Ent2 → Prop} {N K K' : Nat} {d : DiskD} (h : SB P N K d) (hp : ∀ g es, P g es → P' g es) (hK : K ≤ K') : SB P' N K' d :=
  ⟨h.nd, h.len, fun s hs => Nat.le_trans (h.tg s hs) hK, fun p hq => Nat.le_trans (h.tw p hq) hK, fun cl => (h.gd cl).imp hp⟩
theorem SA.imp {P P' : Nat → List Ent2 → Prop} {N K K' : Nat} {d : DiskD} {L : LogD} {es : List Ent2} (h : SA P N K d L es) (hp : P L.gen es → P' L.gen es) (hK : K ≤ K') : SA P' N K' d L es :=
  ⟨h.brk, h.opn, h.len, h.lv, h.cnt, hp h.p, h.tg, Nat.le_trans h.k hK⟩
theorem SA.disk {P : Nat → List Ent2 → Prop} {N K : Nat} {d d' : DiskD} {L : LogD} {es : List Ent2} (h : SA P N K d L es) (hs : d'.sec = d.sec) (ho : d'.opn = d.opn) : SA P N K d' L es :=
  ⟨h.brk, ho.trans h.opn, by rw [hs]; exact h.len, by rw [hs]; exact h.lv, h.cnt, h.p, by rw [hs]; exact h.tg, h.k⟩
theorem SB.disk {P : Nat → List Ent2 → Prop} {N K : Nat} {d d' : DiskD} (h : SB P N K d) (hs : d'.sec = d.sec) (ho : d'.opn = d.opn) : SB P N K d' :=
  ⟨by rw [ho]; exact h.nd, by rw [hs]; exact h.len, by rw [hs]; exact h.tg, by rw [ho]; exact h.tw, by rw [hs, ho]; exact h.gd⟩
/-- What an operation that fails may leave of a disk with the sectors sec and the writes W before it. -/
def Rst (sec : List (List Int)) (W : List (Int × List Int)) (d : DiskD) : Prop := (d.sec = sec ∧ ∃ j, d.opn = W.take j) ∨ (d.opn = [] ∧ ∃ j cl, d.sec = crashL sec (W.take j) cl)
theorem write_fail {d : DiskD} {a : Int} {x : Int × Option Int} (h : writeA d a = some x) (hb : hasB d a = true) (s : List Int) : (x.1 = 11 ∨ x.1 = 12) ∧ (((writeD d a s).sec = d.sec ∧ (writeD d a s).opn = d.opn) ∨ ((writeD d a s).opn = [] ∧ ∃ cl, (writeD d a s).sec = crashL d.sec (d.opn ++ [(a, s)]) cl)) := by
  unfold writeA at h
  unfold writeD
  cases hd : d.down with
  | true =>
    rw [hd] at h
    simp only [if_true, Option.some.injEq] at h
    exact ⟨by rw [← h]; exact .inr rfl, .inl ⟨rfl, rfl⟩⟩
  | false =>
    rw [hd] at h
    simp only [Bool.false_eq_true, if_false] at h ⊢
    split at h
    · rename_i h2
      rw [if_pos h2]
      simp only [Option.some.injEq] at h
      refine ⟨by rw [← h]; exact .inr rfl, .inr ⟨rfl, cutsS d, ?_⟩⟩
      unfold addIf
      rw [show hasB (stepped d) a = hasB d a from rfl, hb]
      rfl
    · rename_i h2
      split at h
      · rename_i h1
        rw [if_neg h2, if_pos h1]
        simp only [Option.some.injEq] at h
        exact ⟨by rw [← h]; exact .inl rfl, .inl ⟨rfl, rfl⟩⟩
      · simp [hb] at h
theorem sync_fail {d : DiskD} {x : Int × Option Int} (h : syncA d = some x) : (x.1 = 11 ∨ x.1 = 12) ∧ (((syncS d).sec = d.sec ∧ (syncS d).opn = d.opn) ∨ ((syncS d).opn = [] ∧ ∃ cl, (syncS d).sec = crashL d.sec d.opn cl)) := by
  unfold syncA at h
  unfold syncS
  cases hd : d.down with
  | true =>
    rw [hd] at h
    simp only [if_true, Option.some.injEq] at h
    exact ⟨by rw [← h]; exact .inr rfl, .inl ⟨rfl, rfl⟩⟩
  | false =>
    rw [hd] at h
    simp only [Bool.false_eq_true, if_false] at h ⊢
    split at h
    · rename_i h2
      rw [if_pos h2]
      simp only [Option.some.injEq] at h
      exact ⟨by rw [← h]; exact .inr rfl, .inr ⟨rfl, cutsS d, rfl⟩⟩
    · rename_i h2
      split at h
      · rename_i h1
        rw [if_neg h2, if_pos h1]
        simp only [Option.some.injEq] at h
        exact ⟨by rw [← h]; exact .inl rfl, .inl ⟨rfl, rfl⟩⟩
      · cases h
theorem ws_fail {d : DiskD} {a : Int} {s : List Int} {x : Int × Option Int} (ho : d.opn = []) (hb : hasB d a = true) (h : wsA d a s = some x) : (x.1 = 11 ∨ x.1 = 12) ∧ Rst d.sec [(a, s)] (wsD d a s) := by
  unfold wsA at h
  unfold wsD
  cases hw : writeA d a with
  | some y =>
    rw [hw] at h
    simp only [Option.some.injEq] at h
    subst h
    obtain ⟨h1, h2⟩ := write_fail hw hb s
    rw [ho] at h2
    refine ⟨h1, ?_⟩
    rcases h2 with ⟨h2, h3⟩ | ⟨h2, cl, h3⟩
    · exact .inl ⟨h2, 0, h3⟩
    · exact .inr ⟨h2, 1, cl, h3⟩
  | none =>
    rw [hw] at h
    simp only at h
    obtain ⟨_, _, hW⟩ := writeA_none hw s
    obtain ⟨h1, h2⟩ := sync_fail h
    rw [hW] at h2
    have hs : (addD (stepped d) a s).sec = d.sec := rfl
    have hop : (addD (stepped d) a s).opn = [(a, s)] := by show d.opn ++ [(a, s)] = _; rw [ho]; rfl
    rw [hs, hop] at h2
    refine ⟨h1, ?_⟩
    rw [hW]
    rcases h2 with ⟨h2, h3⟩ | ⟨h2, cl, h3⟩
    · exact .inl ⟨h2, 1, h3⟩
    · exact .inr ⟨h2, 1, cl, h3⟩
theorem fillW_some : ∀ (L : List (List Int)) (d d' : DiskD) (a : Int) (x : Int × Option Int), fillW d a L = (some x, d') → 0 ≤ a → a.toNat + L.length ≤ d.sec.length → (x.1 = 11 ∨ x.1 = 12) ∧ Rst d.sec (d.opn ++ wrs a L) d'
  | [], d, d', a, x, h, _, _ => by
    unfold fillW at h
    injection h with h1 h2
    obtain ⟨k1, k2⟩ := sync_fail h1
    rw [h2] at k2
    refine ⟨k1, ?_⟩
    rcases k2 with ⟨k2, k3⟩ | ⟨k2, cl, k3⟩
    · exact .inl ⟨k2, d.opn.length, by rw [k3]; simp [wrs]⟩
    · exact .inr ⟨k2, d.opn.length, cl, by rw [k3]; simp [wrs]⟩
  | s :: L, d, d', a, x, h, h0, hl => by
    rw [List.length_cons] at hl
    have hb : hasB d a = true := by unfold hasB; simp; omega
    unfold fillW at h
    cases hw : writeA d a with
    | some y =>
      rw [hw] at h
      simp only [Prod.mk.injEq, Option.some.injEq] at h
      obtain ⟨rfl, rfl⟩ := h
      obtain ⟨k1, k2⟩ := write_fail hw hb s
      refine ⟨k1, ?_⟩
      rcases k2 with ⟨k2, k3⟩ | ⟨k2, cl, k3⟩
      · exact .inl ⟨k2, d.opn.length, by rw [k3]; simp⟩
      · refine .inr ⟨k2, d.opn.length + 1, cl, ?_⟩
        rw [k3, wrs, List.take_append, List.take_of_length_le (by omega), show d.opn.length + 1 - d.opn.length = 1 by omega]
        rfl
    | none =>
      rw [hw] at h
      simp only at h
      obtain ⟨_, _, hW⟩ := writeA_none hw s
      have hs : (writeD d a s).sec = d.sec := by rw [hW]; rfl
      have hop : (writeD d a s).opn = d.opn ++ [(a, s)] := by rw [hW]; rfl
      have ih := fillW_some L _ d' (a + 1) x h (by omega) (by rw [hs]; omega)
      rw [hs, hop, List.append_assoc] at ih
      exact ih
theorem SB.of_rst {P : Nat → List Ent2 → Prop} {N K : Nat} {sec : List (List Int)} {W : List (Int × List Int)} {d : DiskD} (h : Rst sec W d) (hlen : sec.length = N) (hsec : ∀ s ∈ sec, Sec s) (hw : ∀ p ∈ W, 0 ≤ p.1 ∧ p.1 < sec.length ∧ Sec p.2) (hnd : (W.map (·.1)).Nodup) (ht : ∀ s ∈ sec, tagS s ≤ K) (hto : ∀ p ∈ W, tagS p.2 ≤ K) (hK : K < 256)
    (hg : ∀ j cl, Good P (N / 2) (crashL sec (W.take j) cl)) : SB P N K d := by
  have hnj : ∀ j, ((W.take j).map (·.1)).Nodup := fun j => by rw [List.map_take]; exact hnd.sublist (List.take_sublist _ _)
  have hnear : ∀ j cl, Near sec (W.take j) (crashL sec (W.take j) cl) := fun j cl => near_crash hsec (fun p hp => hw p (List.mem_of_mem_take hp)) (hnj j) (fun s hs => by have := ht s hs; omega) (fun p hp => by have := hto p (List.mem_of_mem_take hp); omega) cl
  rcases h with ⟨h1, j, h2⟩ | ⟨h1, j, cl, h2⟩
  · exact ⟨by rw [h2]; exact hnj j, by rw [h1]; exact hlen, by rw [h1]; exact ht, by rw [h2]; exact fun p hp => hto p (List.mem_of_mem_take hp), fun cl => by rw [h1, h2]; exact hg j cl⟩
  · exact ⟨by rw [h1]; exact List.nodup_nil, by rw [h2, crashL_len]; exact hlen, by rw [h2]; exact (hnear j cl).tags ht (fun p hp => hto p (List.mem_of_mem_take hp)), by rw [h1]; exact (fun p hp => by cases hp), fun cl' => by rw [h1, crash_nil, h2]; exact hg j cl⟩
theorem SB.crash {P : Nat → List Ent2 → Prop} {N K : Nat} {d : DiskD} (h : SB P N K d) (hk : DOk d) (hK : K < 256) (cl : List Int) : SB P N K (crashD d cl) where
  nd := List.nodup_nil
  len := (crashL_len _ _ _).trans h.len
  tg := (near_crash hk.sec hk.opn h.nd (fun s hs => by have := h.tg s hs; omega) (fun p hp => by have := h.tw p hp; omega) cl).tags h.tg h.tw
  tw := fun p hp => by cases hp
  gd := fun cl' => by
    show Good P (N / 2) (crashL (crashL d.sec d.opn cl) [] cl')
    rw [crash_nil]
    exact h.gd cl
theorem SA.crash {P : Nat → List Ent2 → Prop} {N K : Nat} {d : DiskD} {L : LogD} {es : List Ent2} (h : SA P N K d L es) (cl : List Int) : SA P N K (crashD d cl) L es := by
  have h1 : (crashD d cl).sec = d.sec := by show crashL d.sec d.opn cl = _; rw [h.opn, crash_nil]
  exact h.disk h1 (by rw [h.opn]; rfl)
end Go.Proofs.YtombncedfleljaaGreat
namespace Go.Proofs.YtombncedfleljaaGreat
open Go.RowKit
attribute [local irreducible] wpQuiet wpAnyH
set_option linter.unusedSimpArgs false

theorem sides {h s : Nat} (hs : s < 2) : (sFrom h s = 0 ∧ sFrom h (1 - s) = h) ∨ (sFrom h s = h ∧ sFrom h (1 - s) = 0) := by
  have : s = 0 ∨ s = 1 := by omega
  rcases this with rfl | rfl
  · exact .inl ⟨rfl, rfl⟩
  · exact .inr ⟨rfl, rfl⟩
theorem live_keep {sec sec' : List (List Int)} {h s g : Nat} {es : List Ent2} (l : Live sec h s g es) (hl : sec'.length = sec.length) (h1 : ∀ a, sFrom h s ≤ a → a ≤ sFrom h s + es.length → sec'.getD a [] = sec.getD a [])
    (h2 : ∀ a, sFrom h s + es.length < a → a < sFrom h s + h → tagS (sec'.getD a []) = tagS (sec.getD a [])) (h3 : tagS (sec'.getD (sFrom h (1 - s)) []) = tagS (sec.getD (sFrom h (1 - s)) [])) : Live sec' h s g es where
  s2 := l.s2
  ln := by rw [hl]; exact l.ln
  fit := l.fit
  g4 := l.g4
  hd := (h1 _ (Nat.le_refl _) (by omega)).trans l.hd
  en := fun i hi => (h1 _ (by omega) (by omega)).trans (l.en i hi)
  eo := l.eo
  nx := fun i hi hh => by rw [h2 _ (by omega) (by omega)]; exact l.nx i hi hh
  ot := by rw [h3]; exact l.ot
theorem live_add {sec sec' : List (List Int)} {h s g : Nat} {es : List Ent2} {q : Ent2} (l : Live sec h s g es) (hq : EntOk q) (hr : rightE q = true) (hf : es.length + 2 ≤ h) (hl : sec'.length = sec.length) (hp : sec'.getD (sFrom h s + 1 + es.length) [] = entRec g q)
    (ho : ∀ a, a < sec.length → a ≠ sFrom h s + 1 + es.length → sec'.getD a [] = sec.getD a []) : Live sec' h s g (es ++ [q]) := by
  have hln := l.ln
  have hsd := sides (h := h) l.s2
  have hlen : (es ++ [q]).length = es.length + 1 := by simp
  refine ⟨l.s2, by rw [hl]; exact l.ln, by rw [hlen]; omega, l.g4, ?_, ?_, ?_, ?_, ?_⟩
  · rw [ho _ (by omega) (by omega)]; exact l.hd
  · intro i hi
    rw [hlen] at hi
    rcases Nat.lt_or_ge i es.length with h1 | h1
    · rw [ho _ (by omega) (by omega), l.en i h1, List.getElem_append_left h1]
    · have : i = es.length := by omega
      subst this
      rw [hp, List.getElem_append_right (Nat.le_refl _)]
      simp
  · intro x hx
    rcases List.mem_append.1 hx with h1 | h1
    · exact l.eo x h1
    · rw [List.mem_singleton] at h1
      rw [h1]
      exact ⟨hq, hr⟩
  · intro i hi hh
    rw [hlen] at hi
    rw [ho _ (by omega) (by omega)]
    exact l.nx i (by omega) hh
  · rw [ho _ (by omega) (by omega)]
    exact l.ot
theorem wrs_mem : ∀ (L : List (List Int)) (b : Int) (p : Int × List Int), p ∈ wrs b L → b ≤ p.1 ∧ p.1 < b + L.length ∧ p.2 ∈ L
  | [], _, _, h => by cases h
  | s :: L, b, p, h => by
    rw [wrs, List.mem_cons] at h
    rw [List.length_cons]
    rcases h with rfl | h
    · exact ⟨Int.le_refl _, by omega, List.mem_cons_self ..⟩
    · have := wrs_mem L (b + 1) p h
      exact ⟨by omega, by omega, List.mem_cons_of_mem _ this.2.2⟩
theorem wrs_nodup : ∀ (L : List (List Int)) (b : Int), ((wrs b L).map (·.1)).Nodup
  | [], _ => List.nodup_nil
  | s :: L, b => by
    rw [wrs, List.map_cons, List.nodup_cons]
    refine ⟨fun hm => ?_, wrs_nodup L _⟩
    rw [List.mem_map] at hm
    obtain ⟨p, hp, he⟩ := hm
    have := wrs_mem L _ p hp
    have h1 := this.1
    rw [he] at h1
    simp only at h1
    omega
theorem getD_run {sec L : List (List Int)} {b : Nat} (hb : b + L.length ≤ sec.length) (a : Nat) : (setAll sec (wrs (b : Int) L)).getD a [] = if b ≤ a ∧ a < b + L.length then L.getD (a - b) [] else sec.getD a [] := by
  rw [set_run L b sec (by omega) (by rw [Int.toNat_natCast]; exact hb), Int.toNat_natCast]
  have hbl : (sec.take b).length = b := by rw [List.length_take]; omega
  rw [List.append_assoc]
  split
  · rename_i h
    rw [List.getD_eq_getElem?_getD, List.getElem?_append_right (by omega), hbl, List.getElem?_append_left (by omega), ← List.getD_eq_getElem?_getD]
  · rename_i h
    rcases Nat.lt_or_ge a b with h1 | h1
    · rw [List.getD_eq_getElem?_getD, List.getElem?_append_left (by omega), List.getElem?_take_of_lt h1, ← List.getD_eq_getElem?_getD]
    · rw [List.getD_eq_getElem?_getD, List.getElem?_append_right (by omega), hbl, List.getElem?_append_right (by omega), List.getElem?_drop, ← List.getD_eq_getElem?_getD]
      congr 1
      omega
theorem rec_sec (g : Nat) : Sec (rec g toll) := ⟨rec_length g toll (by decide), rec_bys g toll toll_bys⟩
theorem hasB_nat {d : DiskD} {a : Nat} (h : a < d.sec.length) : hasB d (a : Int) = true := by unfold hasB; simp; exact h
theorem noteL_brk {L : LogD} {c : Int} (h : c = 11 ∨ c = 12) : noteL L c = { L with brk := true } := by unfold noteL; rw [if_pos h]
theorem noteL_same {L : LogD} {c : Int} (h : c ≠ 11 ∧ c ≠ 12) : noteL L c = L := by unfold noteL; rw [if_neg (fun e => e.elim h.1 h.2)]
theorem room_half {h : Nat} (h1 : 1 ≤ h) : room (h : Int) = (h : Int) - 1 := by unfold room; rw [if_neg (by omega)]

theorem put_vals (d : DiskD) (f z p : Int) (g : Nat) (q : Ent2) (h1 : 1 ≤ p) : (room z < p ∧ putA d f z p g q = some (13, none) ∧ putD d f z p g q = d) ∨ (¬ room z < p ∧ rightE q = false ∧ putA d f z p g q = some (15, none) ∧ putD d f z p g q = d) ∨ (¬ room z < p ∧ rightE q = true ∧ putA d f z p g q = wsA d (f + p) (entRec g q) ∧ putD d f z p g q = wsD d (f + p) (entRec g q)) := by
  unfold putA putD
  have hp : ¬ p < 1 := by omega
  simp only [if_neg hp]
  by_cases h2 : room z < p
  · simp only [if_pos h2]
    exact .inl ⟨h2, trivial, trivial⟩
  · simp only [if_neg h2]
    cases hr : rightE q with
    | false => exact .inr (.inl ⟨h2, rfl, rfl, rfl⟩)
    | true => exact .inr (.inr ⟨h2, rfl, rfl, rfl⟩)

theorem sa_append {P P' : Nat → List Ent2 → Prop} {N K : Nat} {d : DiskD} {L : LogD} {es : List Ent2} (h : SA P N K d L es) (hk : DOk d) (hK : K < 256) {q : Ent2} (hq : EntOk q) (hP : P' L.gen es) (hP2 : P' L.gen (es ++ [q])) :
    (appA d (N / 2) L q = none ∧ SA P' N K (appD d (N / 2) L q) (appL d (N / 2) L q) (es ++ [q]) ∧ (appL d (N / 2) L q).gen = L.gen) ∨
    (∃ x, appA d (N / 2) L q = some x ∧ (x.1 = 11 ∨ x.1 = 12) ∧ SB P' N K (appD d (N / 2) L q) ∧ appL d (N / 2) L q = { L with brk := true }) ∨
    (∃ x, appA d (N / 2) L q = some x ∧ x.1 ≠ 11 ∧ x.1 ≠ 12 ∧ appD d (N / 2) L q = d ∧ appL d (N / 2) L q = L) := by
  have hlv := h.lv
  have hfit := hlv.fit
  have hg4 := hlv.g4
  have hsd := sides (h := N / 2) hlv.s2
  have hln := hlv.ln
  have hgk : L.gen ≤ K := by have := h.k; omega
  unfold appA appD appL
  rw [h.brk]
  simp only [Bool.false_eq_true, if_false]
  generalize hh : N / 2 = hf at *
  rcases put_vals d (sFrom hf L.side) hf ((L.cnt + 1 : Nat) : Int) L.gen q (by omega) with ⟨_, e1, e2⟩ | ⟨_, _, e1, e2⟩ | ⟨hr1, hrt, e1, e2⟩
  · rw [e1, e2]
    exact .inr (.inr ⟨(13, none), rfl, by decide, by decide, rfl, noteL_same ⟨by decide, by decide⟩⟩)
  · rw [e1, e2]
    exact .inr (.inr ⟨(15, none), rfl, by decide, by decide, rfl, noteL_same ⟨by decide, by decide⟩⟩)
  · rw [e1, e2]
    rw [room_half (by omega), h.cnt] at hr1
    obtain ⟨p, hp⟩ : ∃ p : Nat, p = sFrom hf L.side + 1 + es.length := ⟨_, rfl⟩
    have hpi : (sFrom hf L.side : Int) + ((L.cnt + 1 : Nat) : Int) = (p : Int) := by have := h.cnt; omega
    have hpl : p < d.sec.length := by omega
    rw [hpi]
    cases hw : wsA d (p : Int) (entRec L.gen q) with
    | some x =>
      obtain ⟨hc, hrst⟩ := ws_fail h.opn (hasB_nat hpl) hw
      refine .inr (.inl ⟨x, rfl, hc, ?_, noteL_brk hc⟩)
      refine SB.of_rst hrst h.len hk.sec (fun y hy => ?_) (by simp) (fun s hs => Nat.le_trans (h.tg s hs) h.k) (fun y hy => ?_) hK (fun j cl => ?_)
      · rw [List.mem_singleton] at hy; rw [hy]; exact ⟨by show (0 : Int) ≤ p; omega, by show (p : Int) < _; omega, entRec_sec _ hq⟩
      · rw [List.mem_singleton] at hy; rw [hy]; show tagS (entRec _ _) ≤ _; rw [tag_ent _ hq hg4]; exact hgk
      · rw [hh]
        have hnear : Near d.sec [((p : Int), entRec L.gen q)] (crashL d.sec (([((p : Int), entRec L.gen q)]).take j) cl) := by
          refine (near_crash hk.sec (fun y hy => ?_) ?_ (fun s hs => by have := h.tg s hs; have := h.k; omega) (fun y hy => ?_) cl).mono (fun y hy => List.mem_of_mem_take hy)
          · have hy := List.mem_of_mem_take hy
            rw [List.mem_singleton] at hy; rw [hy]; exact ⟨by show (0 : Int) ≤ p; omega, by show (p : Int) < _; omega, entRec_sec _ hq⟩
          · rw [List.map_take]; exact List.Nodup.sublist (List.take_sublist _ _) (by simp)
          · have hy := List.mem_of_mem_take hy
            rw [List.mem_singleton] at hy; rw [hy]; show tagS (entRec _ _) < _; rw [tag_ent _ hq hg4]; omega
        generalize crashL d.sec _ cl = sec' at hnear
        have hoth : ∀ a, a < d.sec.length → a ≠ p → sec'.getD a [] = d.sec.getD a [] := fun a ha hne => (hnear.2 a ha).elim id (fun ⟨s, h1, _⟩ => by
          rw [List.mem_singleton] at h1
          injection h1 with h1 _
          omega)
        have hsame : tagS (sec'.getD p []) = tagS (d.sec.getD p []) ∨ sec'.getD p [] = entRec L.gen q := (hnear.2 p hpl).elim (fun e => .inl (by rw [e])) (fun ⟨s, h1, h2⟩ => by
          rw [List.mem_singleton] at h1
          injection h1 with _ h1
          subst h1
          exact h2.symm)
        rcases hsame with hsm | hsm
        · refine .inl ⟨_, _, _, live_keep hlv hnear.1 (fun a h1 h2 => hoth a (by omega) (by omega)) (fun a h1 h2 => ?_) (by rw [hoth _ (by omega) (by omega)]), hP⟩
          by_cases ha : a = p
          · rw [ha]; exact hsm
          · rw [hoth a (by omega) ha]
        · exact .inl ⟨_, _, _, live_add hlv hq hrt (by omega) hnear.1 (by rw [← hp]; exact hsm) (fun a h1 h2 => hoth a h1 (by omega)), hP2⟩
    | none =>
      obtain ⟨_, k2, k3⟩ := wsA_none hw
      rw [h.opn, List.nil_append] at k3
      have hset : (wsD d (p : Int) (entRec L.gen q)).sec = d.sec.set p (entRec L.gen q) := k3
      refine .inl ⟨rfl, ⟨h.brk, k2, by rw [hset, List.length_set]; exact h.len, ?_, by show L.cnt + 1 = _; rw [h.cnt]; simp, hP2, fun s hs => ?_, h.k⟩, rfl⟩
      · rw [hh]
        show Live _ hf L.side L.gen _
        refine live_add hlv hq hrt (by omega) (by rw [hset, List.length_set]) ?_ (fun a h1 h2 => ?_)
        · rw [hset, getD_set _ _ _ _ hpl, if_pos hp.symm]
        · rw [hset, getD_set _ _ _ _ hpl, if_neg (by omega)]
      · show tagS s ≤ max L.last L.gen
        rw [hset] at hs
        rcases List.mem_or_eq_of_mem_set hs with h1 | h1
        · exact h.tg s h1
        · rw [h1, tag_ent _ hq hg4]; omega
end Go.Proofs.YtombncedfleljaaGreat
namespace Go.Proofs.YtombncedfleljaaGreat
open Go.RowKit
attribute [local irreducible] wpQuiet wpAnyH
set_option linter.unusedSimpArgs false

theorem fill_vals (d : DiskD) (f z : Int) (g : Nat) (l : List Ent2) : (room z < l.length ∧ fillR d f z g l = (some (13, none), d)) ∨ (¬ room z < l.length ∧ fillR d f z g l = (some (15, none), d)) ∨ (¬ room z < l.length ∧ (∀ q ∈ l, rightE q = true) ∧ fillR d f z g l = fillW d (f + 1) (l.map (entRec g))) := by
  unfold fillR
  by_cases h2 : room z < l.length
  · rw [if_pos h2]; exact .inl ⟨h2, rfl⟩
  · rw [if_neg h2]
    by_cases h3 : l.all rightE = true
    · rw [if_pos h3]; exact .inr (.inr ⟨h2, List.all_eq_true.1 h3, rfl⟩)
    · rw [if_neg h3]; exact .inr (.inl ⟨h2, rfl⟩)
theorem rewR_vals {d : DiskD} {h : Nat} {L : LogD} {qs : List Ent2} (hb : L.brk = false) (hg : max L.last L.gen < 4294967295) : rewR d h L qs = rewS d h L qs (max L.last L.gen + 1) := by
  unfold rewR
  rw [if_neg (by rw [hb]; simp), if_neg (by omega)]
theorem mem_setAll {sec : List (List Int)} {b : Nat} {L : List (List Int)} (hb : b + L.length ≤ sec.length) : ∀ s ∈ setAll sec (wrs (b : Int) L), s ∈ sec ∨ s ∈ L := by
  intro s hs
  obtain ⟨a, ha, rfl⟩ := mem_getD hs
  rw [setAll_length] at ha
  rw [getD_run hb]
  split
  · exact .inr (getD_mem (by omega))
  · exact .inl (getD_mem ha)
/-- A rewriting that is done. -/
theorem rew_done {d : DiskD} {h : Nat} {L : LogD} {qs : List Ent2} (hb : L.brk = false) (ho : d.opn = []) (hh : h = d.sec.length / 2) (h1 : 1 ≤ h) (hs : L.side < 2) (tg : ∀ s ∈ d.sec, tagS s ≤ max L.last L.gen) (hm : max L.last L.gen < 4294967296) (hq : ∀ q ∈ qs, EntOk q) (hr : (rewR d h L qs).1 = none) :
    max L.last L.gen + 1 < 4294967296 ∧ (rewR d h L qs).2.2 = { L with side := 1 - L.side, gen := max L.last L.gen + 1, cnt := qs.length } ∧ (rewR d h L qs).2.1.opn = [] ∧ (rewR d h L qs).2.1.down = false ∧ (rewR d h L qs).2.1.sec.length = d.sec.length ∧
      Live (rewR d h L qs).2.1.sec h (1 - L.side) (max L.last L.gen + 1) qs ∧ ∀ s ∈ (rewR d h L qs).2.1.sec, tagS s ≤ max L.last L.gen + 1 := by
  have hg : max L.last L.gen < 4294967295 := by
    rcases Nat.lt_or_ge (max L.last L.gen) 4294967295 with h | h
    · exact h
    · unfold rewR at hr
      rw [hb, if_neg (by simp), if_pos (by omega)] at hr
      cases hr
  rw [rewR_vals hb hg] at hr ⊢
  obtain ⟨g, hgg⟩ : ∃ g, g = max L.last L.gen + 1 := ⟨_, rfl⟩
  rw [← hgg] at hr ⊢
  obtain ⟨o, hoo⟩ : ∃ o, o = 1 - L.side := ⟨_, rfl⟩
  have hsd := sides (h := h) (s := o) (by omega)
  have hos : 1 - o = L.side := by omega
  rw [hos] at hsd
  obtain ⟨f, hf⟩ : ∃ f, f = sFrom h o := ⟨_, rfl⟩
  have hln : h + h ≤ d.sec.length := by omega
  unfold rewS at hr ⊢
  rw [← hoo, ← hf] at hr ⊢
  rcases fill_vals d (f : Int) h g qs with ⟨_, e⟩ | ⟨_, e⟩ | ⟨hrm, hrt, e⟩
  · rw [e] at hr; cases hr
  · rw [e] at hr; cases hr
  · rw [room_half h1] at hrm
    rw [e] at hr ⊢
    cases hfw : fillW d ((f : Int) + 1) (qs.map (entRec g)) with
    | mk fa fd =>
      rw [hfw] at hr
      cases fa with
      | some x => cases hr
      | none =>
        simp only at hr ⊢
        unfold rewW at hr ⊢
        simp only at hr ⊢
        cases hw : wsA fd (f : Int) (rec g toll) with
        | some x => rw [hw] at hr; cases hr
        | none =>
          simp only
          obtain ⟨_, f2, f3⟩ := fillW_none _ _ _ _ hfw
          obtain ⟨c1, c2, c3⟩ := wsA_none hw
          rw [f2, List.nil_append] at c3
          rw [ho, List.nil_append] at f3
          have hfi : (f : Int) + 1 = ((f + 1 : Nat) : Int) := by omega
          rw [hfi] at f3
          have hlr : f + 1 + (qs.map (entRec g)).length ≤ d.sec.length := by rw [List.length_map]; omega
          have hfl : fd.sec.length = d.sec.length := by rw [f3, setAll_length]
          have hset : (wsD fd (f : Int) (rec g toll)).sec = fd.sec.set f (rec g toll) := c3
          have hflt : f < fd.sec.length := by omega
          have hgd : ∀ a, (wsD fd (f : Int) (rec g toll)).sec.getD a [] = if a = f then rec g toll else if f + 1 ≤ a ∧ a < f + 1 + qs.length then (qs.map (entRec g)).getD (a - (f + 1)) [] else d.sec.getD a [] := fun a => by
            rw [hset, getD_set _ _ _ _ hflt, f3, getD_run hlr, List.length_map]
          have hg4 : g < 4294967296 := by omega
          have htag : ∀ a, a < d.sec.length → tagS (d.sec.getD a []) < g := fun a ha => by have := tg _ (getD_mem ha); omega
          refine ⟨hg4, trivial, c2, c1, by rw [hset, List.length_set, hfl], ⟨by omega, by rw [hset, List.length_set, hfl]; exact hln, by omega, hg4, ?_, ?_, fun q hm => ⟨hq q hm, hrt q hm⟩, ?_, ?_⟩, ?_⟩
          · rw [hgd, if_pos hf.symm]
          · intro i hi
            rw [hgd, if_neg (by omega), if_pos (by omega), List.getD_eq_getElem?_getD, show sFrom h o + 1 + i - (f + 1) = i by omega]
            simp [hi]
          · intro i hi hh2
            rw [hgd, if_neg (by omega), if_neg (by omega)]
            have := htag (sFrom h o + 1 + i) (by omega)
            omega
          · rw [hos, hgd, if_neg (by omega), if_neg (by omega)]
            exact htag _ (by omega)
          · intro s hsm
            rw [hset] at hsm
            rcases List.mem_or_eq_of_mem_set hsm with h2 | h2
            · rw [f3] at h2
              rcases mem_setAll hlr s h2 with h3 | h3
              · have := tg s h3; omega
              · rw [List.mem_map] at h3
                obtain ⟨q, hqm, rfl⟩ := h3
                rw [tag_ent g (hq q hqm) hg4]
                exact Nat.le_refl _
            · rw [h2, tag_head g hg4]
              exact Nat.le_refl _

theorem sa_rewrite {P P' : Nat → List Ent2 → Prop} {N K : Nat} {d : DiskD} {L : LogD} {es : List Ent2} (h : SA P N K d L es) (hk : DOk d) (hK : K + 1 < 256) {qs : List Ent2} (hq : ∀ q ∈ qs, EntOk q) (hP : P' L.gen es) (hP2 : ∀ g, L.gen < g → P' g qs) :
    ((rewR d (N / 2) L qs).1 = none ∧ SA P' N (K + 1) (rewR d (N / 2) L qs).2.1 (rewR d (N / 2) L qs).2.2 qs ∧ L.gen < (rewR d (N / 2) L qs).2.2.gen) ∨
    (∃ x, (rewR d (N / 2) L qs).1 = some x ∧ (x.1 = 11 ∨ x.1 = 12) ∧ SB P' N (K + 1) (rewR d (N / 2) L qs).2.1 ∧ (rewR d (N / 2) L qs).2.2 = { L with brk := true }) ∨
    (∃ x, (rewR d (N / 2) L qs).1 = some x ∧ x.1 ≠ 11 ∧ x.1 ≠ 12 ∧ (rewR d (N / 2) L qs).2.1 = d ∧ (rewR d (N / 2) L qs).2.2 = L) := by
  have hlv := h.lv
  have hfit := hlv.fit
  have hln := hlv.ln
  have hs2 := hlv.s2
  have hmk := h.k
  have hlen := h.len
  cases hr : (rewR d (N / 2) L qs).1 with
  | none =>
    obtain ⟨k1, k2, k3, _, k5, k6, k7⟩ := rew_done h.brk h.opn (by rw [hlen]) (by omega) hs2 h.tg (by omega) hq hr
    refine .inl ⟨rfl, ⟨by rw [k2]; exact h.brk, k3, k5.trans hlen, by rw [k2]; exact k6, by rw [k2], by rw [k2]; exact hP2 _ (by show L.gen < max L.last L.gen + 1; omega), fun s hs => ?_, by rw [k2]; show max L.last (max L.last L.gen + 1) ≤ K + 1; omega⟩, by rw [k2]; show L.gen < max L.last L.gen + 1; omega⟩
    rw [k2]
    have := k7 s hs
    show tagS s ≤ max L.last (max L.last L.gen + 1)
    omega
  | some x =>
    refine .inr ?_
    rw [rewR_vals h.brk (by omega)] at hr ⊢
    obtain ⟨g, hgg⟩ : ∃ g, g = max L.last L.gen + 1 := ⟨_, rfl⟩
    rw [← hgg] at hr ⊢
    have hg4 : g < 4294967296 := by omega
    have hgK : g ≤ K + 1 := by omega
    obtain ⟨o, hoo⟩ : ∃ o, o = 1 - L.side := ⟨_, rfl⟩
    have hos : 1 - o = L.side := by omega
    have hsd := sides (h := N / 2) hs2
    rw [← hoo] at hsd
    obtain ⟨f, hf⟩ : ∃ f, f = sFrom (N / 2) o := ⟨_, rfl⟩
    rw [← hf] at hsd
    have htg : ∀ s ∈ d.sec, tagS s ≤ K + 1 := fun s hs => by have := h.tg s hs; omega
    unfold rewS at hr ⊢
    rw [← hoo, ← hf] at hr ⊢
    rcases fill_vals d (f : Int) (N / 2 : Nat) g qs with ⟨_, e⟩ | ⟨_, e⟩ | ⟨hrm, hrt, e⟩
    · rw [e] at hr ⊢
      unfold rewW at hr ⊢
      simp only [Option.some.injEq] at hr ⊢
      subst hr
      exact .inr ⟨_, by first | rfl | trivial, by decide, by decide, by first | rfl | trivial, noteL_same ⟨by decide, by decide⟩⟩
    · rw [e] at hr ⊢
      unfold rewW at hr ⊢
      simp only [Option.some.injEq] at hr ⊢
      subst hr
      exact .inr ⟨_, by first | rfl | trivial, by decide, by decide, by first | rfl | trivial, noteL_same ⟨by decide, by decide⟩⟩
    · rw [room_half (by omega)] at hrm
      rw [e] at hr ⊢
      have hlr : f + 1 + (qs.map (entRec g)).length ≤ d.sec.length := by rw [List.length_map]; omega
      have hfi : (f : Int) + 1 = ((f + 1 : Nat) : Int) := by omega
      rw [hfi] at hr ⊢
      have hmm : ∀ p ∈ wrs ((f + 1 : Nat) : Int) (qs.map (entRec g)), ((f + 1 : Nat) : Int) ≤ p.1 ∧ p.1 < d.sec.length ∧ p.1 < ((f + 1 : Nat) : Int) + qs.length ∧ Sec p.2 ∧ tagS p.2 = g := fun p hp => by
        obtain ⟨m1, m2, m3⟩ := wrs_mem _ _ p hp
        rw [List.length_map] at m2 hlr
        rw [List.mem_map] at m3
        obtain ⟨q, hqm, hqe⟩ := m3
        exact ⟨m1, by omega, m2, by rw [← hqe]; exact entRec_sec g (hq q hqm), by rw [← hqe]; exact tag_ent g (hq q hqm) hg4⟩
      cases hfw : fillW d ((f + 1 : Nat) : Int) (qs.map (entRec g)) with
      | mk fa fd =>
        rw [hfw] at hr
        cases fa with
        | some y =>
          unfold rewW at hr ⊢
          simp only [Option.some.injEq] at hr ⊢
          subst hr
          obtain ⟨hc, hrst⟩ := fillW_some _ _ _ _ _ hfw (by omega) (by rw [Int.toNat_natCast]; exact hlr)
          rw [h.opn, List.nil_append] at hrst
          refine .inl ⟨y, rfl, hc, ?_, noteL_brk hc⟩
          refine SB.of_rst hrst hlen hk.sec (fun p hp => ⟨by have := (hmm p hp).1; omega, (hmm p hp).2.1, (hmm p hp).2.2.2.1⟩) (wrs_nodup _ _) htg (fun p hp => by rw [(hmm p hp).2.2.2.2]; exact hgK) (by omega) (fun j cl => ?_)
          have hnear : Near d.sec (wrs ((f + 1 : Nat) : Int) (qs.map (entRec g))) (crashL d.sec ((wrs ((f + 1 : Nat) : Int) (qs.map (entRec g))).take j) cl) := by
            refine (near_crash hk.sec (fun p hp => ?_) ?_ (fun s hs => by have := htg s hs; omega) (fun p hp => ?_) cl).mono (fun y hy => List.mem_of_mem_take hy)
            · have hp := List.mem_of_mem_take hp
              exact ⟨by have := (hmm p hp).1; omega, (hmm p hp).2.1, (hmm p hp).2.2.2.1⟩
            · rw [List.map_take]; exact List.Nodup.sublist (List.take_sublist _ _) (wrs_nodup _ _)
            · have hp := List.mem_of_mem_take hp
              rw [(hmm p hp).2.2.2.2]; omega
          generalize crashL d.sec _ cl = sec' at hnear
          have hoth : ∀ a, a < d.sec.length → (a < f + 1 ∨ f + 1 + qs.length ≤ a) → sec'.getD a [] = d.sec.getD a [] := fun a ha hne => (hnear.2 a ha).elim id (fun ⟨s, h1, _⟩ => by
            have h2 := hmm _ h1
            have h3 : ((f + 1 : Nat) : Int) ≤ (a : Int) := h2.1
            have h4 : (a : Int) < ((f + 1 : Nat) : Int) + qs.length := h2.2.2.1
            omega)
          exact .inl ⟨_, _, _, live_keep hlv hnear.1 (fun a h1 h2 => hoth a (by omega) (by omega)) (fun a h1 h2 => by rw [hoth a (by omega) (by omega)]) (by rw [← hoo, ← hf, hoth f (by omega) (by omega)]), hP⟩
        | none =>
          unfold rewW at hr ⊢
          simp only at hr ⊢
          obtain ⟨_, f2, f3⟩ := fillW_none _ _ _ _ hfw
          rw [h.opn, List.nil_append] at f3
          have hfl : fd.sec.length = d.sec.length := by rw [f3, setAll_length]
          have hflt : f < fd.sec.length := by omega
          cases hw : wsA fd (f : Int) (rec g toll) with
          | none => rw [hw] at hr; cases hr
          | some y =>
            rw [hw] at hr
            simp only [Option.some.injEq] at hr
            subst hr
            simp only
            obtain ⟨hc, hrst⟩ := ws_fail f2 (hasB_nat hflt) hw
            have hfsec : ∀ s ∈ fd.sec, Sec s ∧ tagS s ≤ K + 1 := fun s hs => by
              rw [f3] at hs
              rcases mem_setAll hlr s hs with h3 | h3
              · exact ⟨hk.sec s h3, htg s h3⟩
              · rw [List.mem_map] at h3
                obtain ⟨q, hqm, rfl⟩ := h3
                exact ⟨entRec_sec g (hq q hqm), by rw [tag_ent g (hq q hqm) hg4]; exact hgK⟩
            have hgd : ∀ a, fd.sec.getD a [] = if f + 1 ≤ a ∧ a < f + 1 + qs.length then (qs.map (entRec g)).getD (a - (f + 1)) [] else d.sec.getD a [] := fun a => by
              rw [f3, getD_run hlr, List.length_map]
            have hlv2 : Live fd.sec (N / 2) L.side L.gen es := live_keep hlv hfl (fun a h1 h2 => by rw [hgd, if_neg (by omega)]) (fun a h1 h2 => by rw [hgd, if_neg (by omega)]) (by rw [← hoo, ← hf, hgd, if_neg (by omega)])
            refine .inl ⟨y, rfl, hc, ?_, noteL_brk hc⟩
            refine SB.of_rst hrst (hfl.trans hlen) (fun s hs => (hfsec s hs).1) (fun p hp => ?_) (by simp) (fun s hs => (hfsec s hs).2) (fun p hp => ?_) (by omega) (fun j cl => ?_)
            · rw [List.mem_singleton] at hp; rw [hp]; exact ⟨by show (0 : Int) ≤ f; omega, by show (f : Int) < _; omega, rec_sec g⟩
            · rw [List.mem_singleton] at hp; rw [hp]; show tagS (rec g toll) ≤ _; rw [tag_head g hg4]; exact hgK
            · have hnear : Near fd.sec [((f : Int), rec g toll)] (crashL fd.sec (([((f : Int), rec g toll)]).take j) cl) := by
                refine (near_crash (fun s hs => (hfsec s hs).1) (fun p hp => ?_) ?_ (fun s hs => by have := (hfsec s hs).2; omega) (fun p hp => ?_) cl).mono (fun y hy => List.mem_of_mem_take hy)
                · have hp := List.mem_of_mem_take hp
                  rw [List.mem_singleton] at hp; rw [hp]; exact ⟨by show (0 : Int) ≤ f; omega, by show (f : Int) < _; omega, rec_sec g⟩
                · rw [List.map_take]; exact List.Nodup.sublist (List.take_sublist _ _) (by simp)
                · have hp := List.mem_of_mem_take hp
                  rw [List.mem_singleton] at hp; rw [hp]; show tagS (rec g toll) < _; rw [tag_head g hg4]; omega
              generalize crashL fd.sec _ cl = sec' at hnear
              have hoth : ∀ a, a < fd.sec.length → a ≠ f → sec'.getD a [] = fd.sec.getD a [] := fun a ha hne => (hnear.2 a ha).elim id (fun ⟨s, h1, _⟩ => by
                rw [List.mem_singleton] at h1
                injection h1 with h1 _
                omega)
              have hsame : tagS (sec'.getD f []) = tagS (fd.sec.getD f []) ∨ sec'.getD f [] = rec g toll := (hnear.2 f hflt).elim (fun e => .inl (by rw [e])) (fun ⟨s, h1, h2⟩ => by
                rw [List.mem_singleton] at h1
                injection h1 with _ h1
                subst h1
                exact h2.symm)
              rcases hsame with hsm | hsm
              · exact .inl ⟨_, _, _, live_keep hlv2 hnear.1 (fun a h1 h2 => hoth a (by omega) (by omega)) (fun a h1 h2 => by rw [hoth a (by omega) (by omega)]) (by rw [← hoo, ← hf]; exact hsm), hP⟩
              · have htag : ∀ a, a < d.sec.length → tagS (d.sec.getD a []) < g := fun a ha => by have := h.tg _ (getD_mem ha); omega
                refine .inl ⟨o, g, qs, ⟨by omega, by rw [hnear.1, hfl]; exact hln, by omega, hg4, by rw [← hf]; exact hsm, ?_, fun q hm => ⟨hq q hm, hrt q hm⟩, ?_, ?_⟩, hP2 g (by omega)⟩
                · intro i hi
                  rw [← hf, hoth _ (by omega) (by omega), hgd, if_pos (by omega), List.getD_eq_getElem?_getD, show f + 1 + i - (f + 1) = i by omega]
                  simp [hi]
                · intro i hi hh2
                  rw [← hf, hoth _ (by omega) (by omega), hgd, if_neg (by omega)]
                  have := htag (f + 1 + i) (by omega)
                  omega
                · rw [hos, hoth _ (by omega) (by omega), hgd, if_neg (by omega)]
                  exact htag _ (by omega)
end Go.Proofs.YtombncedfleljaaGreat
