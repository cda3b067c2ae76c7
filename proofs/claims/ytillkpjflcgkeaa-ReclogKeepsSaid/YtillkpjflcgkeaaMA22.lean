/- Parts: Plain: appending to a log, and rewriting it. | Plain: rewriting a log. | Plain: opening a log. | reclog: a log that is not there. | tolllaw19: the operations, Few, code. | tollref01.Spread, tollref17.Number. | '==' of entries, for a seat without maps of digests. -/
import Derived.Test.YtillkpjflcgkeaaMA21
import Derived.Test.YtillkpjflcgkeaaMA17
import Derived.Test.YtillkpjflcgkeaaMA12
import Derived.Test.YtillkpjflcgkeaaMA1
import Derived.Test.YtillkpjflcgkeaaMA5
import Derived.Laws.Shifts
import Derived.DeepKeys
import Derived.Deep.MidRow
import Derived.WideKeyArr
import Derived.DeepKeys2
namespace Go.Proofs.Ytillkpjflcgkeaa
open Go.RowKit
attribute [local irreducible] wpQuiet wpAnyH
set_option linter.unusedSimpArgs false

theorem sides {h s : Nat} (hs : s < 2) : (sFrom h s = 0 ∧ sFrom h (1 - s) = h) ∨ (sFrom h s = h ∧ sFrom h (1 - s) = 0) := by
  have : s = 0 ∨ s = 1 := by omega
  rcases this with rfl | rfl
  · exact .inl ⟨rfl, rfl⟩
  · exact .inr ⟨rfl, rfl⟩
theorem live_keep {sec sec' : List (List Int)} {h s g : Nat} {es : List Ent2} (l : Live sec h s g es) (hl : sec'.length = sec.length) (h1 : ∀ a, sFrom h s ≤ a → a ≤ sFrom h s + es.length → sec'.getD a [] = sec.getD a [])
    (h2 : ∀ a, sFrom h s + es.length < a → a < sFrom h s + h → tagS (sec'.getD a []) = tagS (sec.getD a [])) (h3 : tagS (sec'.getD (sFrom h (1 - s)) []) = tagS (sec.getD (sFrom h (1 - s)) [])) : Live sec' h s g es where
  s2 := l.s2
  ln := by rw [hl]; exact l.ln
  fit := l.fit
  g4 := l.g4
  hd := (h1 _ (Nat.le_refl _) (by omega)).trans l.hd
  en := fun i hi => (h1 _ (by omega) (by omega)).trans (l.en i hi)
  eo := l.eo
  nx := fun i hi hh => by rw [h2 _ (by omega) (by omega)]; exact l.nx i hi hh
  ot := by rw [h3]; exact l.ot
theorem live_add {sec sec' : List (List Int)} {h s g : Nat} {es : List Ent2} {q : Ent2} (l : Live sec h s g es) (hq : EntOk q) (hr : rightE q = true) (hf : es.length + 2 ≤ h) (hl : sec'.length = sec.length) (hp : sec'.getD (sFrom h s + 1 + es.length) [] = entRec g q)
    (ho : ∀ a, a < sec.length → a ≠ sFrom h s + 1 + es.length → sec'.getD a [] = sec.getD a []) : Live sec' h s g (es ++ [q]) := by
  have hln := l.ln
  have hsd := sides (h := h) l.s2
  have hlen : (es ++ [q]).length = es.length + 1 := by simp
  refine ⟨l.s2, by rw [hl]; exact l.ln, by rw [hlen]; omega, l.g4, ?_, ?_, ?_, ?_, ?_⟩
  · rw [ho _ (by omega) (by omega)]; exact l.hd
  · intro i hi
    rw [hlen] at hi
    rcases Nat.lt_or_ge i es.length with h1 | h1
    · rw [ho _ (by omega) (by omega), l.en i h1, List.getElem_append_left h1]
    · have : i = es.length := by omega
      subst this
      rw [hp, List.getElem_append_right (Nat.le_refl _)]
      simp
  · intro x hx
    rcases List.mem_append.1 hx with h1 | h1
    · exact l.eo x h1
    · rw [List.mem_singleton] at h1
      rw [h1]
      exact ⟨hq, hr⟩
  · intro i hi hh
    rw [hlen] at hi
    rw [ho _ (by omega) (by omega)]
    exact l.nx i (by omega) hh
  · rw [ho _ (by omega) (by omega)]
    exact l.ot
theorem wrs_mem : ∀ (L : List (List Int)) (b : Int) (p : Int × List Int), p ∈ wrs b L → b ≤ p.1 ∧ p.1 < b + L.length ∧ p.2 ∈ L
  | [], _, _, h => by cases h
  | s :: L, b, p, h => by
    rw [wrs, List.mem_cons] at h
    rw [List.length_cons]
    rcases h with rfl | h
    · exact ⟨Int.le_refl _, by omega, List.mem_cons_self ..⟩
    · have := wrs_mem L (b + 1) p h
      exact ⟨by omega, by omega, List.mem_cons_of_mem _ this.2.2⟩
theorem wrs_nodup : ∀ (L : List (List Int)) (b : Int), ((wrs b L).map (·.1)).Nodup
  | [], _ => List.nodup_nil
  | s :: L, b => by
    rw [wrs, List.map_cons, List.nodup_cons]
    refine ⟨fun hm => ?_, wrs_nodup L _⟩
    rw [List.mem_map] at hm
    obtain ⟨p, hp, he⟩ := hm
    have := wrs_mem L _ p hp
    have h1 := this.1
    rw [he] at h1
    simp only at h1
    omega
theorem getD_run {sec L : List (List Int)} {b : Nat} (hb : b + L.length ≤ sec.length) (a : Nat) : (setAll sec (wrs (b : Int) L)).getD a [] = if b ≤ a ∧ a < b + L.length then L.getD (a - b) [] else sec.getD a [] := by
  rw [set_run L b sec (by omega) (by rw [Int.toNat_natCast]; exact hb), Int.toNat_natCast]
  have hbl : (sec.take b).length = b := by rw [List.length_take]; omega
  rw [List.append_assoc]
  split
  · rename_i h
    rw [List.getD_eq_getElem?_getD, List.getElem?_append_right (by omega), hbl, List.getElem?_append_left (by omega), ← List.getD_eq_getElem?_getD]
  · rename_i h
    rcases Nat.lt_or_ge a b with h1 | h1
    · rw [List.getD_eq_getElem?_getD, List.getElem?_append_left (by omega), List.getElem?_take_of_lt h1, ← List.getD_eq_getElem?_getD]
    · rw [List.getD_eq_getElem?_getD, List.getElem?_append_right (by omega), hbl, List.getElem?_append_right (by omega), List.getElem?_drop, ← List.getD_eq_getElem?_getD]
      congr 1
      omega
theorem rec_sec (g : Nat) : Sec (rec g toll) := ⟨rec_length g toll (by decide), rec_bys g toll toll_bys⟩
theorem hasB_nat {d : DiskD} {a : Nat} (h : a < d.sec.length) : hasB d (a : Int) = true := by unfold hasB; simp; exact h
theorem noteL_brk {L : LogD} {c : Int} (h : c = 11 ∨ c = 12) : noteL L c = { L with brk := true } := by unfold noteL; rw [if_pos h]
theorem noteL_same {L : LogD} {c : Int} (h : c ≠ 11 ∧ c ≠ 12) : noteL L c = L := by unfold noteL; rw [if_neg (fun e => e.elim h.1 h.2)]
theorem room_half {h : Nat} (h1 : 1 ≤ h) : room (h : Int) = (h : Int) - 1 := by unfold room; rw [if_neg (by omega)]

theorem put_vals (d : DiskD) (f z p : Int) (g : Nat) (q : Ent2) (h1 : 1 ≤ p) : (room z < p ∧ putA d f z p g q = some (13, none) ∧ putD d f z p g q = d) ∨ (¬ room z < p ∧ rightE q = false ∧ putA d f z p g q = some (15, none) ∧ putD d f z p g q = d) ∨ (¬ room z < p ∧ rightE q = true ∧ putA d f z p g q = wsA d (f + p) (entRec g q) ∧ putD d f z p g q = wsD d (f + p) (entRec g q)) := by
  unfold putA putD
  have hp : ¬ p < 1 := by omega
  simp only [if_neg hp]
  by_cases h2 : room z < p
  · simp only [if_pos h2]
    exact .inl ⟨h2, trivial, trivial⟩
  · simp only [if_neg h2]
    cases hr : rightE q with
    | false => exact .inr (.inl ⟨h2, rfl, rfl, rfl⟩)
    | true => exact .inr (.inr ⟨h2, rfl, rfl, rfl⟩)

theorem sa_append {P P' : Nat → List Ent2 → Prop} {N K : Nat} {d : DiskD} {L : LogD} {es : List Ent2} (h : SA P N K d L es) (hk : DOk d) (hK : K < 256) {q : Ent2} (hq : EntOk q) (hP : P' L.gen es) (hP2 : P' L.gen (es ++ [q])) :
    (appA d (N / 2) L q = none ∧ SA P' N K (appD d (N / 2) L q) (appL d (N / 2) L q) (es ++ [q]) ∧ (appL d (N / 2) L q).gen = L.gen) ∨
    (∃ x, appA d (N / 2) L q = some x ∧ (x.1 = 11 ∨ x.1 = 12) ∧ SB P' N K (appD d (N / 2) L q) ∧ appL d (N / 2) L q = { L with brk := true }) ∨
    (∃ x, appA d (N / 2) L q = some x ∧ x.1 ≠ 11 ∧ x.1 ≠ 12 ∧ appD d (N / 2) L q = d ∧ appL d (N / 2) L q = L) := by
  have hlv := h.lv
  have hfit := hlv.fit
  have hg4 := hlv.g4
  have hsd := sides (h := N / 2) hlv.s2
  have hln := hlv.ln
  have hgk : L.gen ≤ K := by have := h.k; omega
  unfold appA appD appL
  rw [h.brk]
  simp only [Bool.false_eq_true, if_false]
  generalize hh : N / 2 = hf at *
  rcases put_vals d (sFrom hf L.side) hf ((L.cnt + 1 : Nat) : Int) L.gen q (by omega) with ⟨_, e1, e2⟩ | ⟨_, _, e1, e2⟩ | ⟨hr1, hrt, e1, e2⟩
  · rw [e1, e2]
    exact .inr (.inr ⟨(13, none), rfl, by decide, by decide, rfl, noteL_same ⟨by decide, by decide⟩⟩)
  · rw [e1, e2]
    exact .inr (.inr ⟨(15, none), rfl, by decide, by decide, rfl, noteL_same ⟨by decide, by decide⟩⟩)
  · rw [e1, e2]
    rw [room_half (by omega), h.cnt] at hr1
    obtain ⟨p, hp⟩ : ∃ p : Nat, p = sFrom hf L.side + 1 + es.length := ⟨_, rfl⟩
    have hpi : (sFrom hf L.side : Int) + ((L.cnt + 1 : Nat) : Int) = (p : Int) := by have := h.cnt; omega
    have hpl : p < d.sec.length := by omega
    rw [hpi]
    cases hw : wsA d (p : Int) (entRec L.gen q) with
    | some x =>
      obtain ⟨hc, hrst⟩ := ws_fail h.opn (hasB_nat hpl) hw
      refine .inr (.inl ⟨x, rfl, hc, ?_, noteL_brk hc⟩)
      refine SB.of_rst hrst h.len hk.sec (fun y hy => ?_) (by simp) (fun s hs => Nat.le_trans (h.tg s hs) h.k) (fun y hy => ?_) hK (fun j cl => ?_)
      · rw [List.mem_singleton] at hy; rw [hy]; exact ⟨by show (0 : Int) ≤ p; omega, by show (p : Int) < _; omega, entRec_sec _ hq⟩
      · rw [List.mem_singleton] at hy; rw [hy]; show tagS (entRec _ _) ≤ _; rw [tag_ent _ hq hg4]; exact hgk
      · rw [hh]
        have hnear : Near d.sec [((p : Int), entRec L.gen q)] (crashL d.sec (([((p : Int), entRec L.gen q)]).take j) cl) := by
          refine (near_crash hk.sec (fun y hy => ?_) ?_ (fun s hs => by have := h.tg s hs; have := h.k; omega) (fun y hy => ?_) cl).mono (fun y hy => List.mem_of_mem_take hy)
          · have hy := List.mem_of_mem_take hy
            rw [List.mem_singleton] at hy; rw [hy]; exact ⟨by show (0 : Int) ≤ p; omega, by show (p : Int) < _; omega, entRec_sec _ hq⟩
          · rw [List.map_take]; exact List.Nodup.sublist (List.take_sublist _ _) (by simp)
          · have hy := List.mem_of_mem_take hy
            rw [List.mem_singleton] at hy; rw [hy]; show tagS (entRec _ _) < _; rw [tag_ent _ hq hg4]; omega
        generalize crashL d.sec _ cl = sec' at hnear
        have hoth : ∀ a, a < d.sec.length → a ≠ p → sec'.getD a [] = d.sec.getD a [] := fun a ha hne => (hnear.2 a ha).elim id (fun ⟨s, h1, _⟩ => by
          rw [List.mem_singleton] at h1
          injection h1 with h1 _
          omega)
        have hsame : tagS (sec'.getD p []) = tagS (d.sec.getD p []) ∨ sec'.getD p [] = entRec L.gen q := (hnear.2 p hpl).elim (fun e => .inl (by rw [e])) (fun ⟨s, h1, h2⟩ => by
          rw [List.mem_singleton] at h1
          injection h1 with _ h1
          subst h1
          exact h2.symm)
        rcases hsame with hsm | hsm
        · refine .inl ⟨_, _, _, live_keep hlv hnear.1 (fun a h1 h2 => hoth a (by omega) (by omega)) (fun a h1 h2 => ?_) (by rw [hoth _ (by omega) (by omega)]), hP⟩
          by_cases ha : a = p
          · rw [ha]; exact hsm
          · rw [hoth a (by omega) ha]
        · exact .inl ⟨_, _, _, live_add hlv hq hrt (by omega) hnear.1 (by rw [← hp]; exact hsm) (fun a h1 h2 => hoth a h1 (by omega)), hP2⟩
    | none =>
      obtain ⟨_, k2, k3⟩ := wsA_none hw
      rw [h.opn, List.nil_append] at k3
      have hset : (wsD d (p : Int) (entRec L.gen q)).sec = d.sec.set p (entRec L.gen q) := k3
      refine .inl ⟨rfl, ⟨h.brk, k2, by rw [hset, List.length_set]; exact h.len, ?_, by show L.cnt + 1 = _; rw [h.cnt]; simp, hP2, fun s hs => ?_, h.k⟩, rfl⟩
      · rw [hh]
        show Live _ hf L.side L.gen _
        refine live_add hlv hq hrt (by omega) (by rw [hset, List.length_set]) ?_ (fun a h1 h2 => ?_)
        · rw [hset, getD_set _ _ _ _ hpl, if_pos hp.symm]
        · rw [hset, getD_set _ _ _ _ hpl, if_neg (by omega)]
      · show tagS s ≤ max L.last L.gen
        rw [hset] at hs
        rcases List.mem_or_eq_of_mem_set hs with h1 | h1
        · exact h.tg s h1
        · rw [h1, tag_ent _ hq hg4]; omega
end Go.Proofs.Ytillkpjflcgkeaa
namespace Go.Proofs.Ytillkpjflcgkeaa
open Go.RowKit
attribute [local irreducible] wpQuiet wpAnyH
set_option linter.unusedSimpArgs false

theorem fill_vals (d : DiskD) (f z : Int) (g : Nat) (l : List Ent2) : (room z < l.length ∧ fillR d f z g l = (some (13, none), d)) ∨ (¬ room z < l.length ∧ fillR d f z g l = (some (15, none), d)) ∨ (¬ room z < l.length ∧ (∀ q ∈ l, rightE q = true) ∧ fillR d f z g l = fillW d (f + 1) (l.map (entRec g))) := by
  unfold fillR
  by_cases h2 : room z < l.length
  · rw [if_pos h2]; exact .inl ⟨h2, rfl⟩
  · rw [if_neg h2]
    by_cases h3 : l.all rightE = true
    · rw [if_pos h3]; exact .inr (.inr ⟨h2, List.all_eq_true.1 h3, rfl⟩)
    · rw [if_neg h3]; exact .inr (.inl ⟨h2, rfl⟩)
theorem rewR_vals {d : DiskD} {h : Nat} {L : LogD} {qs : List Ent2} (hb : L.brk = false) (hg : max L.last L.gen < 4294967295) : rewR d h L qs = rewS d h L qs (max L.last L.gen + 1) := by
  unfold rewR
  rw [if_neg (by rw [hb]; simp), if_neg (by omega)]
theorem mem_setAll {sec : List (List Int)} {b : Nat} {L : List (List Int)} (hb : b + L.length ≤ sec.length) : ∀ s ∈ setAll sec (wrs (b : Int) L), s ∈ sec ∨ s ∈ L := by
  intro s hs
  obtain ⟨a, ha, rfl⟩ := mem_getD hs
  rw [setAll_length] at ha
  rw [getD_run hb]
  split
  · exact .inr (getD_mem (by omega))
  · exact .inl (getD_mem ha)
/-- A rewriting that is done. -/
theorem rew_done {d : DiskD} {h : Nat} {L : LogD} {qs : List Ent2} (hb : L.brk = false) (ho : d.opn = []) (hh : h = d.sec.length / 2) (h1 : 1 ≤ h) (hs : L.side < 2) (tg : ∀ s ∈ d.sec, tagS s ≤ max L.last L.gen) (hm : max L.last L.gen < 4294967296) (hq : ∀ q ∈ qs, EntOk q) (hr : (rewR d h L qs).1 = none) :
    max L.last L.gen + 1 < 4294967296 ∧ (rewR d h L qs).2.2 = { L with side := 1 - L.side, gen := max L.last L.gen + 1, cnt := qs.length } ∧ (rewR d h L qs).2.1.opn = [] ∧ (rewR d h L qs).2.1.down = false ∧ (rewR d h L qs).2.1.sec.length = d.sec.length ∧
      Live (rewR d h L qs).2.1.sec h (1 - L.side) (max L.last L.gen + 1) qs ∧ ∀ s ∈ (rewR d h L qs).2.1.sec, tagS s ≤ max L.last L.gen + 1 := by
  have hg : max L.last L.gen < 4294967295 := by
    rcases Nat.lt_or_ge (max L.last L.gen) 4294967295 with h | h
    · exact h
    · unfold rewR at hr
      rw [hb, if_neg (by simp), if_pos (by omega)] at hr
      cases hr
  rw [rewR_vals hb hg] at hr ⊢
  obtain ⟨g, hgg⟩ : ∃ g, g = max L.last L.gen + 1 := ⟨_, rfl⟩
  rw [← hgg] at hr ⊢
  obtain ⟨o, hoo⟩ : ∃ o, o = 1 - L.side := ⟨_, rfl⟩
  have hsd := sides (h := h) (s := o) (by omega)
  have hos : 1 - o = L.side := by omega
  rw [hos] at hsd
  obtain ⟨f, hf⟩ : ∃ f, f = sFrom h o := ⟨_, rfl⟩
  have hln : h + h ≤ d.sec.length := by omega
  unfold rewS at hr ⊢
  rw [← hoo, ← hf] at hr ⊢
  rcases fill_vals d (f : Int) h g qs with ⟨_, e⟩ | ⟨_, e⟩ | ⟨hrm, hrt, e⟩
  · rw [e] at hr; cases hr
  · rw [e] at hr; cases hr
  · rw [room_half h1] at hrm
    rw [e] at hr ⊢
    cases hfw : fillW d ((f : Int) + 1) (qs.map (entRec g)) with
    | mk fa fd =>
      rw [hfw] at hr
      cases fa with
      | some x => cases hr
      | none =>
        simp only at hr ⊢
        unfold rewW at hr ⊢
        simp only at hr ⊢
        cases hw : wsA fd (f : Int) (rec g toll) with
        | some x => rw [hw] at hr; cases hr
        | none =>
          simp only
          obtain ⟨_, f2, f3⟩ := fillW_none _ _ _ _ hfw
          obtain ⟨c1, c2, c3⟩ := wsA_none hw
          rw [f2, List.nil_append] at c3
          rw [ho, List.nil_append] at f3
          have hfi : (f : Int) + 1 = ((f + 1 : Nat) : Int) := by omega
          rw [hfi] at f3
          have hlr : f + 1 + (qs.map (entRec g)).length ≤ d.sec.length := by rw [List.length_map]; omega
          have hfl : fd.sec.length = d.sec.length := by rw [f3, setAll_length]
          have hset : (wsD fd (f : Int) (rec g toll)).sec = fd.sec.set f (rec g toll) := c3
          have hflt : f < fd.sec.length := by omega
          have hgd : ∀ a, (wsD fd (f : Int) (rec g toll)).sec.getD a [] = if a = f then rec g toll else if f + 1 ≤ a ∧ a < f + 1 + qs.length then (qs.map (entRec g)).getD (a - (f + 1)) [] else d.sec.getD a [] := fun a => by
            rw [hset, getD_set _ _ _ _ hflt, f3, getD_run hlr, List.length_map]
          have hg4 : g < 4294967296 := by omega
          have htag : ∀ a, a < d.sec.length → tagS (d.sec.getD a []) < g := fun a ha => by have := tg _ (getD_mem ha); omega
          refine ⟨hg4, trivial, c2, c1, by rw [hset, List.length_set, hfl], ⟨by omega, by rw [hset, List.length_set, hfl]; exact hln, by omega, hg4, ?_, ?_, fun q hm => ⟨hq q hm, hrt q hm⟩, ?_, ?_⟩, ?_⟩
          · rw [hgd, if_pos hf.symm]
          · intro i hi
            rw [hgd, if_neg (by omega), if_pos (by omega), List.getD_eq_getElem?_getD, show sFrom h o + 1 + i - (f + 1) = i by omega]
            simp [hi]
          · intro i hi hh2
            rw [hgd, if_neg (by omega), if_neg (by omega)]
            have := htag (sFrom h o + 1 + i) (by omega)
            omega
          · rw [hos, hgd, if_neg (by omega), if_neg (by omega)]
            exact htag _ (by omega)
          · intro s hsm
            rw [hset] at hsm
            rcases List.mem_or_eq_of_mem_set hsm with h2 | h2
            · rw [f3] at h2
              rcases mem_setAll hlr s h2 with h3 | h3
              · have := tg s h3; omega
              · rw [List.mem_map] at h3
                obtain ⟨q, hqm, rfl⟩ := h3
                rw [tag_ent g (hq q hqm) hg4]
                exact Nat.le_refl _
            · rw [h2, tag_head g hg4]
              exact Nat.le_refl _

theorem sa_rewrite {P P' : Nat → List Ent2 → Prop} {N K : Nat} {d : DiskD} {L : LogD} {es : List Ent2} (h : SA P N K d L es) (hk : DOk d) (hK : K + 1 < 256) {qs : List Ent2} (hq : ∀ q ∈ qs, EntOk q) (hP : P' L.gen es) (hP2 : ∀ g, L.gen < g → P' g qs) :
    ((rewR d (N / 2) L qs).1 = none ∧ SA P' N (K + 1) (rewR d (N / 2) L qs).2.1 (rewR d (N / 2) L qs).2.2 qs ∧ L.gen < (rewR d (N / 2) L qs).2.2.gen) ∨
    (∃ x, (rewR d (N / 2) L qs).1 = some x ∧ (x.1 = 11 ∨ x.1 = 12) ∧ SB P' N (K + 1) (rewR d (N / 2) L qs).2.1 ∧ (rewR d (N / 2) L qs).2.2 = { L with brk := true }) ∨
    (∃ x, (rewR d (N / 2) L qs).1 = some x ∧ x.1 ≠ 11 ∧ x.1 ≠ 12 ∧ (rewR d (N / 2) L qs).2.1 = d ∧ (rewR d (N / 2) L qs).2.2 = L) := by
  have hlv := h.lv
  have hfit := hlv.fit
  have hln := hlv.ln
  have hs2 := hlv.s2
  have hmk := h.k
  have hlen := h.len
  cases hr : (rewR d (N / 2) L qs).1 with
  | none =>
    obtain ⟨k1, k2, k3, _, k5, k6, k7⟩ := rew_done h.brk h.opn (by rw [hlen]) (by omega) hs2 h.tg (by omega) hq hr
    refine .inl ⟨rfl, ⟨by rw [k2]; exact h.brk, k3, k5.trans hlen, by rw [k2]; exact k6, by rw [k2], by rw [k2]; exact hP2 _ (by show L.gen < max L.last L.gen + 1; omega), fun s hs => ?_, by rw [k2]; show max L.last (max L.last L.gen + 1) ≤ K + 1; omega⟩, by rw [k2]; show L.gen < max L.last L.gen + 1; omega⟩
    rw [k2]
    have := k7 s hs
    show tagS s ≤ max L.last (max L.last L.gen + 1)
    omega
  | some x =>
    refine .inr ?_
    rw [rewR_vals h.brk (by omega)] at hr ⊢
    obtain ⟨g, hgg⟩ : ∃ g, g = max L.last L.gen + 1 := ⟨_, rfl⟩
    rw [← hgg] at hr ⊢
    have hg4 : g < 4294967296 := by omega
    have hgK : g ≤ K + 1 := by omega
    obtain ⟨o, hoo⟩ : ∃ o, o = 1 - L.side := ⟨_, rfl⟩
    have hos : 1 - o = L.side := by omega
    have hsd := sides (h := N / 2) hs2
    rw [← hoo] at hsd
    obtain ⟨f, hf⟩ : ∃ f, f = sFrom (N / 2) o := ⟨_, rfl⟩
    rw [← hf] at hsd
    have htg : ∀ s ∈ d.sec, tagS s ≤ K + 1 := fun s hs => by have := h.tg s hs; omega
    unfold rewS at hr ⊢
    rw [← hoo, ← hf] at hr ⊢
    rcases fill_vals d (f : Int) (N / 2 : Nat) g qs with ⟨_, e⟩ | ⟨_, e⟩ | ⟨hrm, hrt, e⟩
    · rw [e] at hr ⊢
      unfold rewW at hr ⊢
      simp only [Option.some.injEq] at hr ⊢
      subst hr
      exact .inr ⟨_, by first | rfl | trivial, by decide, by decide, by first | rfl | trivial, noteL_same ⟨by decide, by decide⟩⟩
    · rw [e] at hr ⊢
      unfold rewW at hr ⊢
      simp only [Option.some.injEq] at hr ⊢
      subst hr
      exact .inr ⟨_, by first | rfl | trivial, by decide, by decide, by first | rfl | trivial, noteL_same ⟨by decide, by decide⟩⟩
    · rw [room_half (by omega)] at hrm
      rw [e] at hr ⊢
      have hlr : f + 1 + (qs.map (entRec g)).length ≤ d.sec.length := by rw [List.length_map]; omega
      have hfi : (f : Int) + 1 = ((f + 1 : Nat) : Int) := by omega
      rw [hfi] at hr ⊢
      have hmm : ∀ p ∈ wrs ((f + 1 : Nat) : Int) (qs.map (entRec g)), ((f + 1 : Nat) : Int) ≤ p.1 ∧ p.1 < d.sec.length ∧ p.1 < ((f + 1 : Nat) : Int) + qs.length ∧ Sec p.2 ∧ tagS p.2 = g := fun p hp => by
        obtain ⟨m1, m2, m3⟩ := wrs_mem _ _ p hp
        rw [List.length_map] at m2 hlr
        rw [List.mem_map] at m3
        obtain ⟨q, hqm, hqe⟩ := m3
        exact ⟨m1, by omega, m2, by rw [← hqe]; exact entRec_sec g (hq q hqm), by rw [← hqe]; exact tag_ent g (hq q hqm) hg4⟩
      cases hfw : fillW d ((f + 1 : Nat) : Int) (qs.map (entRec g)) with
      | mk fa fd =>
        rw [hfw] at hr
        cases fa with
        | some y =>
          unfold rewW at hr ⊢
          simp only [Option.some.injEq] at hr ⊢
          subst hr
          obtain ⟨hc, hrst⟩ := fillW_some _ _ _ _ _ hfw (by omega) (by rw [Int.toNat_natCast]; exact hlr)
          rw [h.opn, List.nil_append] at hrst
          refine .inl ⟨y, rfl, hc, ?_, noteL_brk hc⟩
          refine SB.of_rst hrst hlen hk.sec (fun p hp => ⟨by have := (hmm p hp).1; omega, (hmm p hp).2.1, (hmm p hp).2.2.2.1⟩) (wrs_nodup _ _) htg (fun p hp => by rw [(hmm p hp).2.2.2.2]; exact hgK) (by omega) (fun j cl => ?_)
          have hnear : Near d.sec (wrs ((f + 1 : Nat) : Int) (qs.map (entRec g))) (crashL d.sec ((wrs ((f + 1 : Nat) : Int) (qs.map (entRec g))).take j) cl) := by
            refine (near_crash hk.sec (fun p hp => ?_) ?_ (fun s hs => by have := htg s hs; omega) (fun p hp => ?_) cl).mono (fun y hy => List.mem_of_mem_take hy)
            · have hp := List.mem_of_mem_take hp
              exact ⟨by have := (hmm p hp).1; omega, (hmm p hp).2.1, (hmm p hp).2.2.2.1⟩
            · rw [List.map_take]; exact List.Nodup.sublist (List.take_sublist _ _) (wrs_nodup _ _)
            · have hp := List.mem_of_mem_take hp
              rw [(hmm p hp).2.2.2.2]; omega
          generalize crashL d.sec _ cl = sec' at hnear
          have hoth : ∀ a, a < d.sec.length → (a < f + 1 ∨ f + 1 + qs.length ≤ a) → sec'.getD a [] = d.sec.getD a [] := fun a ha hne => (hnear.2 a ha).elim id (fun ⟨s, h1, _⟩ => by
            have h2 := hmm _ h1
            have h3 : ((f + 1 : Nat) : Int) ≤ (a : Int) := h2.1
            have h4 : (a : Int) < ((f + 1 : Nat) : Int) + qs.length := h2.2.2.1
            omega)
          exact .inl ⟨_, _, _, live_keep hlv hnear.1 (fun a h1 h2 => hoth a (by omega) (by omega)) (fun a h1 h2 => by rw [hoth a (by omega) (by omega)]) (by rw [← hoo, ← hf, hoth f (by omega) (by omega)]), hP⟩
        | none =>
          unfold rewW at hr ⊢
          simp only at hr ⊢
          obtain ⟨_, f2, f3⟩ := fillW_none _ _ _ _ hfw
          rw [h.opn, List.nil_append] at f3
          have hfl : fd.sec.length = d.sec.length := by rw [f3, setAll_length]
          have hflt : f < fd.sec.length := by omega
          cases hw : wsA fd (f : Int) (rec g toll) with
          | none => rw [hw] at hr; cases hr
          | some y =>
            rw [hw] at hr
            simp only [Option.some.injEq] at hr
            subst hr
            simp only
            obtain ⟨hc, hrst⟩ := ws_fail f2 (hasB_nat hflt) hw
            have hfsec : ∀ s ∈ fd.sec, Sec s ∧ tagS s ≤ K + 1 := fun s hs => by
              rw [f3] at hs
              rcases mem_setAll hlr s hs with h3 | h3
              · exact ⟨hk.sec s h3, htg s h3⟩
              · rw [List.mem_map] at h3
                obtain ⟨q, hqm, rfl⟩ := h3
                exact ⟨entRec_sec g (hq q hqm), by rw [tag_ent g (hq q hqm) hg4]; exact hgK⟩
            have hgd : ∀ a, fd.sec.getD a [] = if f + 1 ≤ a ∧ a < f + 1 + qs.length then (qs.map (entRec g)).getD (a - (f + 1)) [] else d.sec.getD a [] := fun a => by
              rw [f3, getD_run hlr, List.length_map]
            have hlv2 : Live fd.sec (N / 2) L.side L.gen es := live_keep hlv hfl (fun a h1 h2 => by rw [hgd, if_neg (by omega)]) (fun a h1 h2 => by rw [hgd, if_neg (by omega)]) (by rw [← hoo, ← hf, hgd, if_neg (by omega)])
            refine .inl ⟨y, rfl, hc, ?_, noteL_brk hc⟩
            refine SB.of_rst hrst (hfl.trans hlen) (fun s hs => (hfsec s hs).1) (fun p hp => ?_) (by simp) (fun s hs => (hfsec s hs).2) (fun p hp => ?_) (by omega) (fun j cl => ?_)
            · rw [List.mem_singleton] at hp; rw [hp]; exact ⟨by show (0 : Int) ≤ f; omega, by show (f : Int) < _; omega, rec_sec g⟩
            · rw [List.mem_singleton] at hp; rw [hp]; show tagS (rec g toll) ≤ _; rw [tag_head g hg4]; exact hgK
            · have hnear : Near fd.sec [((f : Int), rec g toll)] (crashL fd.sec (([((f : Int), rec g toll)]).take j) cl) := by
                refine (near_crash (fun s hs => (hfsec s hs).1) (fun p hp => ?_) ?_ (fun s hs => by have := (hfsec s hs).2; omega) (fun p hp => ?_) cl).mono (fun y hy => List.mem_of_mem_take hy)
                · have hp := List.mem_of_mem_take hp
                  rw [List.mem_singleton] at hp; rw [hp]; exact ⟨by show (0 : Int) ≤ f; omega, by show (f : Int) < _; omega, rec_sec g⟩
                · rw [List.map_take]; exact List.Nodup.sublist (List.take_sublist _ _) (by simp)
                · have hp := List.mem_of_mem_take hp
                  rw [List.mem_singleton] at hp; rw [hp]; show tagS (rec g toll) < _; rw [tag_head g hg4]; omega
              generalize crashL fd.sec _ cl = sec' at hnear
              have hoth : ∀ a, a < fd.sec.length → a ≠ f → sec'.getD a [] = fd.sec.getD a [] := fun a ha hne => (hnear.2 a ha).elim id (fun ⟨s, h1, _⟩ => by
                rw [List.mem_singleton] at h1
                injection h1 with h1 _
                omega)
              have hsame : tagS (sec'.getD f []) = tagS (fd.sec.getD f []) ∨ sec'.getD f [] = rec g toll := (hnear.2 f hflt).elim (fun e => .inl (by rw [e])) (fun ⟨s, h1, h2⟩ => by
                rw [List.mem_singleton] at h1
                injection h1 with _ h1
                subst h1
                exact h2.symm)
              rcases hsame with hsm | hsm
              · exact .inl ⟨_, _, _, live_keep hlv2 hnear.1 (fun a h1 h2 => hoth a (by omega) (by omega)) (fun a h1 h2 => by rw [hoth a (by omega) (by omega)]) (by rw [← hoo, ← hf]; exact hsm), hP⟩
              · have htag : ∀ a, a < d.sec.length → tagS (d.sec.getD a []) < g := fun a ha => by have := h.tg _ (getD_mem ha); omega
                refine .inl ⟨o, g, qs, ⟨by omega, by rw [hnear.1, hfl]; exact hln, by omega, hg4, by rw [← hf]; exact hsm, ?_, fun q hm => ⟨hq q hm, hrt q hm⟩, ?_, ?_⟩, hP2 g (by omega)⟩
                · intro i hi
                  rw [← hf, hoth _ (by omega) (by omega), hgd, if_pos (by omega), List.getD_eq_getElem?_getD, show f + 1 + i - (f + 1) = i by omega]
                  simp [hi]
                · intro i hi hh2
                  rw [← hf, hoth _ (by omega) (by omega), hgd, if_neg (by omega)]
                  have := htag (f + 1 + i) (by omega)
                  omega
                · rw [hos, hoth _ (by omega) (by omega), hgd, if_neg (by omega)]
                  exact htag _ (by omega)
end Go.Proofs.Ytillkpjflcgkeaa
namespace Go.Proofs.Ytillkpjflcgkeaa
open Go.RowKit
attribute [local irreducible] wpQuiet wpAnyH
set_option linter.unusedSimpArgs false

theorem part1_zero : part1 0 = zsec := by unfold part1; simp
theorem tag_zsec : tagS zsec = 0 := by rw [← part1_zero]; exact (part1_none (by omega)).2
theorem Fresh.tag {sec : List (List Int)} {h : Nat} (f : Fresh sec h) : ∀ s ∈ sec, tagS s ≤ 0 := by
  intro s hs
  obtain ⟨a, ha, rfl⟩ := mem_getD hs
  obtain ⟨c, hc, he⟩ := f.ex
  match a with
  | 0 => rw [he, (part1_none hc).2]; exact Nat.le_refl _
  | a + 1 => rw [f.zs _ (by omega) ha, tag_zsec]; exact Nat.le_refl _
theorem Fresh.scan {sec : List (List Int)} {h : Nat} (f : Fresh sec h) (s : Nat) (hs : s < 2) : (scanL (none, []) ((sec.drop (sFrom h s)).take h)).1 = none := by
  cases hg : (scanL (none, []) ((sec.drop (sFrom h s)).take h)).1 with
  | none => rfl
  | some g =>
    obtain ⟨x, hx, hp⟩ := scan_gen hg
    have h1 := f.h1
    have hln := f.ln
    have hsd := sides (h := h) hs
    have hx2 : x = sec.getD (sFrom h s) [] := by
      have := drop_getD sec (sFrom h s) h 0 (by omega) (by omega)
      rw [Nat.add_zero] at this
      rw [← this, List.getD_eq_getElem?_getD, ← List.head?_eq_getElem?, hx]
      rfl
    rcases hsd with ⟨e, _⟩ | ⟨e, _⟩
    · obtain ⟨c, hc, he⟩ := f.ex
      rw [e, he] at hx2
      rw [hx2, (part1_none hc).1] at hp
      cases hp
    · rw [e, f.zs h (by omega) (by omega)] at hx2
      rw [hx2, prsH_zsec] at hp
      cases hp
theorem openF_none {d : DiskD} (h : ∀ s, s < 2 → (scanL (none, []) ((d.sec.drop (sFrom (d.sec.length / 2) s)).take (d.sec.length / 2))).1 = none) : (openF d).1 = none := by
  unfold openF
  generalize d.sec.length / 2 = f at *
  show (fNext 1 (slotS d (sFrom f 1) f) (fNext 0 (slotS d (sFrom f 0) f) (none, _))).1 = none
  rw [fNext_none (k := 0) (S := slotS d (sFrom f 0) f) (h 0 (by omega)), fNext_none (k := 1) (S := slotS d (sFrom f 1) f) (h 1 (by omega))]
theorem live_first {sec sec' : List (List Int)} {h : Nat} (f : Fresh sec h) (hl : sec'.length = sec.length) (h0 : sec'.getD 0 [] = rec 1 toll) (ho : ∀ a, 0 < a → a < sec.length → sec'.getD a [] = sec.getD a []) : Live sec' h 0 1 [] := by
  have h1 := f.h1
  have hln := f.ln
  refine ⟨by omega, by rw [hl]; exact hln, by simp; omega, by omega, h0, (fun i hi => by simp at hi), (fun q hq => by cases hq), ?_, ?_⟩
  · intro i _ hh
    show tagS (sec'.getD (0 + 1 + i) []) ≠ 1
    rw [ho _ (by omega) (by omega), f.zs _ (by omega) (by omega), tag_zsec]
    omega
  · show tagS (sec'.getD h []) < 1
    rw [ho _ (by omega) (by omega), f.zs _ (by omega) (by omega), tag_zsec]
    omega
theorem fresh_keep {sec sec' : List (List Int)} {h : Nat} (f : Fresh sec h) (hl : sec'.length = sec.length) {c : Nat} (hc : c < 64) (h0 : sec'.getD 0 [] = part1 c) (ho : ∀ a, 0 < a → a < sec.length → sec'.getD a [] = sec.getD a []) : Fresh sec' h :=
  ⟨f.h1, by rw [hl]; exact f.ln, ⟨c, hc, h0⟩, fun a h1 h2 => by rw [hl] at h2; rw [ho a h1 h2]; exact f.zs a h1 h2⟩
theorem openS_some {d : DiskD} {es : List Ent2} {L : LogD} (h : openF d = (some es, L)) : openS d = (none, d, some (L, es)) := by
  unfold openS
  rw [h]
theorem sb_open {P : Nat → List Ent2 → Prop} {N K : Nat} {d : DiskD} (hmono : P 0 [] → P 1 []) (h : SB P N K d) (hk : DOk d) (hN : 2 ≤ N) (hK : K + 1 < 256) :
    (∃ x, (openR d).1 = some x ∧ (openR d).2.2 = none ∧ SB P N (K + 1) (openR d).2.1) ∨ (∃ L es, (openR d).1 = none ∧ (openR d).2.2 = some (L, es) ∧ SA P N (K + 1) (openR d).2.1 L es) := by
  have hlen := h.len
  unfold openR
  rw [if_neg (by omega)]
  cases hs : syncA d with
  | some x =>
    refine .inl ⟨x, rfl, rfl, ?_⟩
    obtain ⟨_, hr⟩ := sync_fail hs
    show SB P N (K + 1) (syncS d)
    rcases hr with ⟨h1, h2⟩ | ⟨h1, cl, h2⟩
    · exact (h.disk h1 h2).imp (fun _ _ h => h) (by omega)
    · have hc := h.crash hk (by omega) cl
      exact (hc.disk h2 h1).imp (fun _ _ h => h) (by omega)
  | none =>
    simp only
    obtain ⟨hd, ho⟩ := syncS_ok hs
    obtain ⟨d1, hd1⟩ : ∃ d1, d1 = syncS d := ⟨_, rfl⟩
    have hsec : ∃ cl, d1.sec = crashL d.sec d.opn cl := by
      obtain ⟨cl, hcl⟩ := crash_wholeL d.sec d.opn hk.sec hk.opn
      refine ⟨cl, ?_⟩
      rw [hd1, (syncA_none hs).2, hcl]
      rfl
    rw [← hd1] at hd ho ⊢
    obtain ⟨cl, hcl⟩ := hsec
    have hg := h.gd cl
    have hct := h.crash hk (by omega) cl
    have htg : ∀ s ∈ d1.sec, tagS s ≤ K := by rw [hcl]; exact hct.tg
    have hlen1 : d1.sec.length = N := by rw [hcl, crashL_len]; exact hlen
    have hsc1 : ∀ s ∈ d1.sec, Sec s := by rw [hcl]; exact crashL_sec cl hk.sec hk.opn
    rw [← hcl] at hg
    rw [← hlen1] at hg
    rcases hg with ⟨s, g, es, hlv, hp⟩ | ⟨hf, hp⟩
    · have hop := openF_live hlv
      rw [openS_some hop]
      refine .inr ⟨_, _, rfl, rfl, ⟨rfl, ho, hlen1, by rw [← hlen1]; exact hlv, rfl, hp, fun x hx => ?_, ?_⟩⟩
      · obtain ⟨a, ha, rfl⟩ := mem_getD hx
        have := lastN_ge hd ho d1.sec.length (Nat.le_refl _) a ha
        exact Nat.le_trans this (Nat.le_max_left _ _)
      · have h1 := lastN_le hd ho K htg d1.sec.length (Nat.le_refl _)
        have hsd := sides (h := d1.sec.length / 2) hlv.s2
        have hfit := hlv.fit
        have hln := hlv.ln
        have h2 := htg _ (getD_mem (show sFrom (d1.sec.length / 2) s < d1.sec.length by omega))
        rw [hlv.hd, tag_head g hlv.g4] at h2
        show max (lastN d1 d1.sec.length) g ≤ K + 1
        omega
    · have hof := openF_none (fun s hs => hf.scan s hs)
      have hla : lastN d1 d1.sec.length = 0 := by
        have := lastN_le hd ho 0 hf.tag d1.sec.length (Nat.le_refl _)
        omega
      have hpos : 0 < d1.sec.length := by omega
      obtain ⟨c, hc, he⟩ := hf.ex
      unfold openS
      rw [hof, hla]
      simp only [show ¬ ((0 : Nat) = 4294967295) by omega, if_false, Nat.zero_add]
      cases hw : wsA d1 0 (rec 1 toll) with
      | some x =>
        obtain ⟨_, hr⟩ := ws_fail ho (hasB_nat hpos) hw
        refine .inl ⟨x, rfl, rfl, ?_⟩
        show SB P N (K + 1) (wsD d1 0 (rec 1 toll))
        refine SB.of_rst hr hlen1 hsc1 (fun p hp => ?_) (by simp) (fun s hs => by have := htg s hs; omega) (fun p hp => ?_) hK (fun j cl' => ?_)
        · rw [List.mem_singleton] at hp; rw [hp]; exact ⟨by show (0 : Int) ≤ 0; omega, by show (0 : Int) < _; omega, rec_sec 1⟩
        · rw [List.mem_singleton] at hp; rw [hp]; show tagS (rec 1 toll) ≤ _; rw [tag_head 1 (by omega)]; omega
        · rw [← hlen1]
          match j with
          | 0 => rw [List.take_zero, crash_nil]; exact .inr ⟨hf, hp⟩
          | j + 1 =>
            have e1 : crashL d1.sec (([(((0 : Nat) : Int), rec 1 toll)]).take (j + 1)) cl' = d1.sec.set 0 (tearL (d1.sec.getD 0 []) (rec 1 toll) (cl'.getD 0 0)) := by rw [List.take_succ_cons, List.take_nil]; exact crash_one' d1.sec 0 (rec 1 toll) cl'
            rw [e1, he]
            have ho1 : ∀ X, ∀ a, 0 < a → a < d1.sec.length → (d1.sec.set 0 X).getD a [] = d1.sec.getD a [] := fun X a h1 _ => by rw [getD_set _ _ _ _ hpos, if_neg (by omega)]
            rcases part1_tear c hc (cl'.getD 0 0) with h2 | ⟨c', hc', h2⟩
            · rw [h2]
              exact .inl ⟨0, 1, [], live_first hf (List.length_set ..) (by rw [getD_set _ _ _ _ hpos, if_pos rfl]) (ho1 _), hmono hp⟩
            · rw [h2]
              exact .inr ⟨fresh_keep hf (List.length_set ..) hc' (by rw [getD_set _ _ _ _ hpos, if_pos rfl]) (ho1 _), hp⟩
      | none =>
        obtain ⟨k1, k2, k3⟩ := wsA_none hw
        rw [ho, List.nil_append] at k3
        have hset : (wsD d1 0 (rec 1 toll)).sec = d1.sec.set 0 (rec 1 toll) := k3
        refine .inr ⟨_, _, rfl, rfl, ?_⟩
        show SA P N (K + 1) (wsD d1 0 (rec 1 toll)) ⟨0, 0, 1, 0, false⟩ []
        refine ⟨rfl, k2, by rw [hset, List.length_set]; exact hlen1, ?_, rfl, hmono hp, fun s hs => ?_, by show max 0 1 ≤ K + 1; omega⟩
        · rw [← hlen1]
          exact live_first hf (by rw [hset, List.length_set]) (by rw [hset, getD_set _ _ _ _ hpos, if_pos rfl]) (fun a h1 _ => by rw [hset, getD_set _ _ _ _ hpos, if_neg (by omega)])
        · rw [hset] at hs
          show tagS s ≤ max 0 1
          rcases List.mem_or_eq_of_mem_set hs with h1 | h1
          · have := hf.tag s h1; omega
          · rw [h1, tag_head 1 (by omega)]; omega
theorem fresh_new (n : Nat) (hn : 2 ≤ n) : Fresh (List.replicate n zsec) (n / 2) := by
  refine ⟨by omega, by rw [List.length_replicate]; omega, ⟨0, by omega, ?_⟩, fun a _ ha => ?_⟩
  · rw [part1_zero]
    rw [List.getD_eq_getElem?_getD, List.getElem?_replicate, if_pos (by omega)]
    rfl
  · rw [List.length_replicate] at ha
    rw [List.getD_eq_getElem?_getD, List.getElem?_replicate, if_pos ha]
    rfl
theorem sb_new {P : Nat → List Ent2 → Prop} (n : Nat) (hn : 2 ≤ n) (hp : P 0 []) : SB P n 0 (newD n) :=
  ⟨List.nodup_nil, List.length_replicate, (fresh_new n hn).tag, (fun p hp => by cases hp), fun cl => by show Good P (n / 2) (crashL (List.replicate n zsec) [] cl); rw [crash_nil]; exact .inr ⟨fresh_new n hn, hp⟩⟩
end Go.Proofs.Ytillkpjflcgkeaa
namespace Go.Proofs.Ytillkpjflcgkeaa
open Go.RowKit
attribute [local irreducible] wpQuiet wpAnyH
set_option linter.unusedSimpArgs false

set_option maxRecDepth 100000 in
theorem log_rewrite_nil (v : Value) (w : World) : Calls Try.prog 12 #[.pointer none, v] w fun e w' => e = .returned (valE (some (12, none))) ∧ w' = w := by
  go_enter Try.func12, Try.ntmps12
  go_wp2_with fail
  go_ret
  exact ⟨rfl, rfl⟩
set_option maxRecDepth 100000 in
theorem log_append_nil (q : Ent2) (w : World) (hq : EntOk q) : Calls Try.prog 9 #[.pointer none, .agg (entP q).toArray] w fun e w' => e = .returned (valE (some (12, none))) ∧ Below w.heap.size w w' := by
  have hql := entP_length q hq
  obtain ⟨w1, hw1⟩ : ∃ w1, w1 = w.alloc (.cells (entP q).toArray 25) := ⟨_, rfl⟩
  have HW1 : Hid (Below w.heap.size w w1) := Lib.hid (by rw [hw1]; exact bel1 _ _)
  go_enter Try.func9, Try.ntmps9
  go_upto_region 1 with fail
  rw [← hw1]
  clear hw1
  go_wp2_with fail
  go_ret
  exact ⟨rfl, HW1.out⟩
set_option maxRecDepth 100000 in
theorem log_count_nil (w : World) : Calls Try.prog 15 #[.pointer none] w fun e w' => e = .returned (.int .i64 0) ∧ w' = w := by
  go_enter Try.func15, Try.ntmps15
  go_wp2_with fail
  go_ret
  exact ⟨rfl, rfl⟩
set_option maxRecDepth 100000 in
theorem log_room_nil (w : World) : Calls Try.prog 14 #[.pointer none] w fun e w' => e = .returned (.int .i64 0) ∧ w' = w := by
  go_enter Try.func14, Try.ntmps14
  go_wp2_with fail
  go_ret
  exact ⟨rfl, rfl⟩
set_option maxRecDepth 100000 in
theorem log_generation_nil (w : World) : Calls Try.prog 23 #[.pointer none] w fun e w' => e = .returned (.int .u32 0) ∧ w' = w := by
  go_enter Try.func23, Try.ntmps23
  go_wp2_with fail
  go_ret
  exact ⟨rfl, rfl⟩
end Go.Proofs.Ytillkpjflcgkeaa
namespace Go.Proofs.Ytillkpjflcgkeaa
open Go.RowKit
attribute [local irreducible] wpQuiet wpAnyH
set_option linter.unusedSimpArgs false

structure Op19 where
  kind : Int
  pos : Int
  gen : Nat
  ent : Ent2
  more : List Ent2
  cuts : List Int
  mv : Value
  cv : Value
def opC19 (o : Op19) : List Value := [.int .i64 o.kind, .int .i64 o.pos, .int .u32 o.gen] ++ (entP o.ent ++ [o.mv, o.cv])
structure Op19Ok (w : World) (o : Op19) : Prop where
  kind : isI64 o.kind
  pos : isI64 o.pos
  gen : o.gen < 4294967296
  ent : EntOk o.ent
  more : Sn w 33 o.mv o.more.length (o.more.flatMap entP)
  mok : ∀ q ∈ o.more, EntOk q
  cuts : Sn w 1 o.cv o.cuts.length (i64s o.cuts)
  cok : ∀ c ∈ o.cuts, isI64 c
def Few19 (o : Op19) : Prop := o.cuts.length ≤ 20 ∧ o.more.length ≤ 20 ∧ -1048576 ≤ o.pos ∧ o.pos ≤ 1048576
theorem Op19Ok.keep {w w' : World} {o : Op19} (h : Op19Ok w o) (hb : Below w.heap.size w w') : Op19Ok w' o := ⟨h.kind, h.pos, h.gen, h.ent, h.more.below hb, h.mok, h.cuts.below hb, h.cok⟩
theorem opC19_length {w : World} (o : Op19) (h : Op19Ok w o) : (opC19 o).length = 38 := by
  unfold opC19
  have := entP_length o.ent h.ent
  simp [this]
theorem opI19 (o : Op19) (h : (opC19 o).length = 38) : (Try.prog.info? 47).map (·.size) = some (opC19 o).length := by rw [h]; kernel_rfl
theorem Sn.slc9 {w : World} {s n : Nat} {v : Value} {xs : List Value} (h : Sn w s v n xs) : ∃ A cap, v = .slice A n cap := by
  obtain ⟨A, cap, e, _⟩ := h
  exact ⟨A, cap, e⟩
theorem code19 (o : Ans) (w : World) (h : isI64 (codeA o)) : Calls Try.prog 11 #[valE o] w fun e w' => e = .returned (.int .i64 (codeA o)) ∧ Below w.heap.size w w' := by
  obtain ⟨v, hv⟩ : ∃ v, v = valE o := ⟨_, rfl⟩
  have HC := Lib.hid (code_val o w)
  rw [← hv] at HC ⊢
  obtain ⟨c, hc⟩ : ∃ c, c = codeA o := ⟨_, rfl⟩
  rw [← hc] at HC h ⊢
  have h1 : -9223372036854775808 ≤ c := h.1
  have h2 : c ≤ 9223372036854775807 := h.2
  clear hv hc h
  go_enter Try.func11, Try.ntmps11
  go_wp2_with (go_at_call 32; refine HC.out.mono ?_; rintro e w1 ⟨rfl, hb⟩; have HB := Lib.hid hb; clear hb)
  go_ret
  exact ⟨rfl, HB.out⟩
/-- The fields of an operation's box. -/
theorem op_cells19 {w : World} {g : Nat} {o : Op19} (hq : EntOk o.ent) (h : Blk w g 47 (opC19 o).toArray) : w.cell? ⟨g, 0, none⟩ = some (.int .i64 o.kind) ∧ w.cell? ⟨g, 1, none⟩ = some (.int .i64 o.pos) ∧ w.cell? ⟨g, 2, none⟩ = some (.int .u32 o.gen) ∧ w.rangeAt g 3 (entP o.ent) ∧ w.cell? ⟨g, 36, none⟩ = some o.mv ∧ w.cell? ⟨g, 37, none⟩ = some o.cv := by
  have hr := h.range
  rw [List.toList_toArray] at hr
  have hl := entP_length o.ent hq
  have c : ∀ i u, (opC19 o)[i]? = some u → w.cell? ⟨g, i, none⟩ = some u := fun i u hi => by have := hr i u hi; rw [Nat.zero_add] at this; exact this
  refine ⟨c 0 _ rfl, c 1 _ rfl, c 2 _ rfl, fun i u hi => ?_, c 36 _ ?_, c 37 _ ?_⟩
  · refine c (3 + i) u ?_
    unfold opC19
    have hlt := (List.getElem?_eq_some_iff.1 hi).1
    rw [List.getElem?_append_right (by simp), List.getElem?_append_left (by simp; omega)]
    simpa using hi
  all_goals
    unfold opC19
    rw [List.getElem?_append_right (by simp), List.getElem?_append_right (by simp; omega)]
    simp [hl]
theorem op_at19 {w : World} {A : Option Addr} {cap : Nat} {l : List Op19} (h : Sn w 38 (.slice A l.length cap) l.length (l.flatMap opC19)) (hok : ∀ o ∈ l, (opC19 o).length = 38) (k : Nat) (hk : k < l.length) :
    ∃ b off, A = some ⟨b, off, none⟩ ∧ w.rangeAt b (off + k * 38) (opC19 l[k]) := by
  obtain ⟨A', cap', hv, _, _, hx⟩ := h
  injection hv with hv _ _
  obtain ⟨b, off, he, hc⟩ := hx (by omega)
  refine ⟨b, off, hv.trans he, fun i u hi => ?_⟩
  have hi38 : i < 38 := by have := (List.getElem?_eq_some_iff.1 hi).1; rw [hok _ (List.getElem_mem hk)] at this; exact this
  have hp := flatMap_pieceM opC19 38 l hok k hk
  have : (l.flatMap opC19)[k * 38 + i]? = some u := by
    rw [← hi, ← hp, List.getElem?_take_of_lt hi38, List.getElem?_drop]
  have := hc (k * 38 + i) u this
  rw [show off + k * 38 + i = off + (k * 38 + i) by omega]
  exact this
set_option maxRecDepth 100000 in
set_option maxHeartbeats 4000000 in
theorem few19 (A : Option Addr) (cap : Nat) (l : List Op19) (w : World) (hs : Sn w 38 (.slice A l.length cap) l.length (l.flatMap opC19)) (hok : ∀ o ∈ l, Op19Ok w o) (hl : l.length ≤ 9223372036854775807) :
    Calls Try.prog 16 #[.slice A l.length cap] w fun e w' => ∃ b : Bool, e = .returned (.int .i64 (if b then 1 else 0)) ∧ Below w.heap.size w w' ∧ (b = true → l.length ≤ 40 ∧ ∀ o ∈ l, Few19 o) := by
  have HS := Lib.hid hs
  have HOK := Lib.hid hok
  clear hs hok
  have hll : (l.length : Int) ≤ 9223372036854775807 := by omega
  go_enter Try.func16, Try.ntmps16
  go_wp2_with fail
  go_loopw [3] (fun i wr => ∃ k : Nat, k ≤ l.length ∧ i = .int .i64 (k : Int) ∧ Hid (∀ o ∈ l.take k, Few19 o) ∧ wr = w) (fun i _ => l.length - (intOf i).toNat)
  case atStart => exact ⟨0, Nat.zero_le _, rfl, Lib.hid (fun o ho => by simp at ho), rfl⟩
  case round =>
    obtain ⟨k, hk, rfl, HF, hw⟩ := hrel
    rw [hw]
    clear hw
    rcases Nat.lt_or_ge k l.length with hlt | hge
    · obtain ⟨b, off, hA, hr⟩ := op_at19 HS.out (fun o ho => opC19_length o (HOK.out o ho)) k hlt
      subst hA
      have ho := HOK.out _ (List.getElem_mem hlt)
      have HN : Hid (Few19 l[k] → ∀ o ∈ l.take (k + 1), Few19 o) := Lib.hid (fun h o ho => by
        rw [List.take_succ_eq_append_getElem hlt] at ho
        rcases List.mem_append.1 ho with ho | ho
        · exact HF.out o ho
        · rw [List.mem_singleton.1 ho]; exact h)
      obtain ⟨o, hoe⟩ : ∃ o, o = l[k] := ⟨_, rfl⟩
      rw [← hoe] at hr ho HN
      clear hoe
      obtain ⟨Am, cm, em⟩ := ho.more.slc9
      obtain ⟨Ac, cc, ec⟩ := ho.cuts.slc9
      have hE := entP_length o.ent ho.ent
      have c1 : w.cell? ⟨b, off + k * 38 + 1, none⟩ = some (.int .i64 o.pos) := hr 1 _ rfl
      have c5 : w.cell? ⟨b, off + k * 38 + 36, none⟩ = some (.slice Am o.more.length cm) := hr 36 _ (by
        unfold opC19
        rw [List.getElem?_append_right (by simp), List.getElem?_append_right (by simp; omega), em]
        simp [hE])
      have c7 : w.cell? ⟨b, off + k * 38 + 37, none⟩ = some (.slice Ac o.cuts.length cc) := hr 37 _ (by
        unfold opC19
        rw [List.getElem?_append_right (by simp), List.getElem?_append_right (by simp; omega), ec]
        simp [hE])
      have p1 : -9223372036854775808 ≤ o.pos := ho.pos.1
      have p2 : o.pos ≤ 9223372036854775807 := ho.pos.2
      have hi0 : (0 : Int) ≤ k := by omega
      have hi1 : (k : Int) < l.length := by omega
      clear hr ho em ec
      rcases Bool.eq_false_or_eq_true (decide ((20 : Int) < (o.cuts.length : Int))) with t1 | t1
      · go_wp2_with fail
        go_ret
        exact ⟨false, rfl, Below.refl _ _, fun h => by cases h⟩
      · rcases Bool.eq_false_or_eq_true (decide ((20 : Int) < (o.more.length : Int))) with t2 | t2
        · go_wp2_with fail
          go_ret
          exact ⟨false, rfl, Below.refl _ _, fun h => by cases h⟩
        · rcases Bool.eq_false_or_eq_true (decide ((1048576 : Int) < o.pos)) with t3 | t3
          · go_wp2_with fail
            go_ret
            exact ⟨false, rfl, Below.refl _ _, fun h => by cases h⟩
          · rcases Bool.eq_false_or_eq_true (decide (o.pos < -1048576)) with t4 | t4
            · go_wp2_with fail
              go_ret
              exact ⟨false, rfl, Below.refl _ _, fun h => by cases h⟩
            · have HN2 := Lib.hid (HN.out ⟨by have := of_decide_eq_false t1; omega, by have := of_decide_eq_false t2; omega, by have := of_decide_eq_false t4; omega, by have := of_decide_eq_false t3; omega⟩)
              go_wp2_with fail
              exact ⟨⟨k + 1, by omega, by go_num, HN2, trivial⟩, by simp [intOf]; omega⟩
    · obtain rfl : k = l.length := by omega
      rw [List.take_length] at HF
      rcases Bool.eq_false_or_eq_true (decide ((40 : Int) < (l.length : Int))) with t1 | t1
      · go_wp2_with fail
        go_ret
        exact ⟨false, rfl, Below.refl _ _, fun h => by cases h⟩
      · go_wp2_with fail
        go_ret
        exact ⟨true, rfl, Below.refl _ _, fun _ => ⟨by have := of_decide_eq_false t1; omega, HF.out⟩⟩
end Go.Proofs.Ytillkpjflcgkeaa
namespace Go.Proofs.Ytillkpjflcgkeaa
open Go.RowKit
attribute [local irreducible] wpQuiet wpAnyH
set_option linter.unusedSimpArgs false

section
variable {P : Program}
/-- A slice as a pointer to an array: the address it begins at. -/
theorem s2a {ops : Array Oper} {rest : List Oper} {o : Oper} {a : Act} {w : World} {Q : Exit → Act → World → Prop} (arr : TypeId) (x : Operand) (ho : o.op = .sliceToArrayPointer arr x) (hw : Region.wanted o (yielded ops a.tmps) = true)
    {A : Option Addr} {n cap m : Nat} {e : TypeId} (hv : a.eval x = .slice A n cap) (hu : P.underlying arr = some (.array m e)) (hn : m ≤ n)
    (h : wpList P ops Q rest (a.put o.dst (.pointer A)) w) : wpList P ops Q (o :: rest) a w :=
  wpList_step fun K hK => by
    rw [if_pos hw]
    unfold Oper.wp
    have hrun : (execOp a.eval o).run P w = .ok (.value (.pointer A)) w := by
      unfold execOp
      simp only [ho, hv, Instr.arrayAt]
      simp only [Sem.run_bind, Sem.run_pure, Result.andThen_ok, run_underlying hu, if_neg (Nat.not_lt.2 hn)]
    rw [hrun, Oper.upon_value]
    exact hK _ _ h
/-- An operation whose run is known. -/
theorem pv {ops : Array Oper} {rest : List Oper} {o : Oper} {a : Act} {w : World} {Q : Exit → Act → World → Prop} (op : Op) (_ : o.op = op) (hw : Region.wanted o (yielded ops a.tmps) = true)
    {v : Value} (hrun : (execOp a.eval o).run P w = .ok (.value v) w) (h : wpList P ops Q rest (a.put o.dst v) w) : wpList P ops Q (o :: rest) a w :=
  wpList_step fun K hK => by
    rw [if_pos hw]
    unfold Oper.wp
    rw [hrun, Oper.upon_value]
    exact hK _ _ h
end

def spX (x : Nat) : Nat := (x * 6364136223846793005 + 1442695040888963407) % 18446744073709551616
def spB (x : Nat) : Int := ((x / 8589934592 % 256 : Nat) : Int)
def spIt (x : Nat) : Nat → Nat
  | 0 => x
  | n + 1 => spX (spIt x n)
def spL (x : Nat) (n : Nat) : List Int := (List.range n).map fun j => spB (spIt x (j + 1))
theorem spL_length (x n : Nat) : (spL x n).length = n := by simp [spL]
theorem spL_bys (x n : Nat) : Bys (spL x n) := fun b hb => by
  simp only [spL, List.mem_map] at hb
  obtain ⟨j, _, rfl⟩ := hb
  unfold spB
  omega
theorem spL_succ (x n : Nat) : spL x (n + 1) = spL x n ++ [spB (spIt x (n + 1))] := by simp [spL, List.range_succ]
theorem spIt_lt {x : Nat} (h : x < 18446744073709551616) : ∀ n, spIt x n < 18446744073709551616
  | 0 => h
  | n + 1 => Nat.mod_lt _ (by omega)
theorem list_of_range32 (s : List Int) (h : s.length = 32) : s = (List.range 32).map (fun i => s.getD i 0) := by
  apply List.ext_getElem
  · simp [h]
  · intro i h1 h2
    simp [h1]
theorem built_num (s : List Int) (t : Int) (h : s.length = 32) : Try.prog.built 25 [(0, .agg (u8s s).toArray), (1, .int .i64 t)] = some (entP (s, t)).toArray := by
  rw [list_of_range32 s h]
  generalize (fun i => s.getD i 0) = D
  kernel_rfl
def numE (n : Nat) (t : Int) : List Int × Int := (spL n 32, t)
theorem numE_ok (n : Nat) (t : Int) (ht : isI64 t) : EntOk (numE n t) := ⟨⟨spL_length _ _, spL_bys _ _⟩, ht⟩

set_option maxRecDepth 100000 in
set_option maxHeartbeats 1000000 in
theorem spread_any (x n : Nat) (w : World) (hx : x < 18446744073709551616) (hn : n ≤ 100000) :
    Calls Try.prog 38 #[.int .u64 x, .int .i64 n] w fun e w' => ∃ v, e = .returned v ∧ w'.ownsRow w.heap.size 5 1 v n (u8s (spL x n)) ∧ Below w.heap.size w w' := by
  have HX := Lib.hid hx
  clear hx
  go_enter Try.func38, Try.ntmps38
  go_wp2_with fail
  go_loopw [5, 6, 7] (fun out y i wr => ∃ k : Nat, k ≤ n ∧ i = .int .i64 k ∧ y = .int .u64 (spIt x k) ∧ Hid (wr.ownsRow w.heap.size 5 1 out k (u8s (spL x k))) ∧ Hid (Below w.heap.size w wr)) (fun _ _ i _ => n - (intOf i).toNat)
  case atStart => exact ⟨0, Nat.zero_le _, rfl, rfl, Lib.hid (World.ownsRow_nil _ _ _ _), Lib.hid (Below.refl _ _)⟩
  case round =>
    obtain ⟨k, hk, rfl, rfl, HO, HB⟩ := hrel
    have hszr := HB.out.size
    rcases Nat.lt_or_ge k n with hlt | hge
    · have hb := spIt_lt HX.out k
      have k1 : IntKind.u64.wrap (IntKind.u64.wrap ((spIt x k : Int) * 6364136223846793005) + 1442695040888963407) = (spIt x (k + 1) : Int) := by
        show _ = ((spX (spIt x k) : Nat) : Int)
        unfold IntKind.wrap spX
        simp only [IntKind.signed, IntKind.bits]
        simp
      have hy := spIt_lt HX.out (k + 1)
      have HSU := Lib.hid (spL_succ x k)
      obtain ⟨y, hyd⟩ : ∃ y, y = spIt x (k + 1) := ⟨_, rfl⟩
      have HYD := Lib.hid hyd
      rw [← hyd] at k1 hy HSU
      clear hyd
      have hsh : (Int.fdiv (y : Int) 8589934592) = ((y / 8589934592 : Nat) : Int) := by rw [Int.fdiv_eq_ediv_of_nonneg _ (by omega)]; omega
      have k3 : IntKind.u8.wrap ((y / 8589934592 : Nat) : Int) = spB y := by unfold IntKind.wrap spB; simp [IntKind.signed, IntKind.bits]
      go_wp2_with (first | (refine pv (v := .int .u64 ((y : Int).fdiv 8589934592)) (Op.binOp BinOp.shr 85 (Operand.tmp 18) (Operand.const (Value.int IntKind.u64 33)) 92) rfl rfl (by kernel_rfl) ?_; rw [hsh]) | (at_builtin; refine app tByt (.tmp 17) (.tmp 21) rfl rfl (by rfl) (World.ownsRow.alloc HO.out _) (by rfl) (Sn.new wr (u8s [spB y]).toArray 5 1 1 rfl) (u8s_mem [spB y]) (by unfold maxLen; omega) (by omega) (by simp; omega) ?_; intro v3 w3 hown hgrow _; rw [List.toList_toArray, ← u8s_append] at hown; have HO3 := Lib.hid hown; have HB3 := Lib.hid ((HB.out.alloc hszr _).grown hgrow (by simp; omega) (fun g hg => (World.ownsRow.lt HO.out g hg).1)); clear hown hgrow))
      exact ⟨⟨k + 1, by omega, by go_num, by rw [HYD.out], Lib.hid (by rw [HSU.out]; exact HO3.out), HB3⟩, by simp [intOf]; omega⟩
    · obtain rfl : k = n := by omega
      go_wp2_with fail
      go_ret
      exact ⟨_, rfl, HO.out, HB.out⟩

set_option maxRecDepth 100000 in
set_option maxHeartbeats 1000000 in
theorem number17 (n : Nat) (t : Int) (w : World) (hn : n < 4294967296) (ht : isI64 t) :
    Calls Try.prog 22 #[.int .i64 n, .int .i64 t] w fun e w' => e = .returned (.agg (entP (numE n t)).toArray) ∧ Below w.heap.size w w' := by
  have HN : Hid (numE n t = (spL n 32, t)) := Lib.hid rfl
  have HSP := Lib.hid (fun w1 => spread_any n 32 w1 (by omega) (by omega))
  have h3 := spL_length n 32
  have h2 : (entP (spL n 32, t)).length = 33 := entP_length _ (numE_ok n t ht)
  rw [HN.out]
  obtain ⟨s, hs⟩ : ∃ s, s = spL n 32 := ⟨_, rfl⟩
  rw [← hs] at HSP h2 h3 ⊢
  clear hs HN ht
  have h1 : (entP (s, t)).toArray.all (·.oneCell') = true := entC_one _ _
  have HS : Hid ((u8s s).length = 32) := Lib.hid (by rw [u8s_length, h3])
  have HBL := Lib.hid (built_num s t h3)
  have hn0 : (0 : Int) ≤ n := by omega
  have hsz : zE.size = (entP (s, t)).toArray.size := by rw [zE_size, List.size_toArray, h2]
  have hsz2 : (Try.prog.info? 25).map (·.size) = some (entP (s, t)).toArray.size := by rw [List.size_toArray, h2]; kernel_rfl
  obtain ⟨E, hE⟩ : ∃ E, E = (entP (s, t)).toArray := ⟨_, rfl⟩
  rw [← hE] at h1 HBL hsz hsz2 ⊢
  clear hE h2 h3
  obtain ⟨w1, hw1⟩ : ∃ w1, w1 = w.alloc (.cells zE 25) := ⟨_, rfl⟩
  have HB1 : Hid (Below w.heap.size w w1) := Lib.hid (by rw [hw1]; exact (Below.refl _ w).alloc (Nat.le_refl _) _)
  have HE1 : Hid (Blk w1 w.heap.size 25 zE) := Lib.hid (by rw [hw1]; exact Blk.new _ _ _)
  go_enter Try.func22, Try.ntmps22
  go_wp2_with (refine al 25 _ rfl rfl zeroE ?_)
  rw [← hw1]
  clear hw1
  refine (HSP.out w1).mono ?_
  rintro e w2 ⟨v, rfl, ho, hb2⟩
  have HB2 := Lib.hid (bstep HB1.out hb2)
  have HE2 := Lib.hid (HE1.out.keep hb2)
  obtain ⟨A, cap, rfl, _, _, hx⟩ := Sn.own ho
  obtain ⟨b, off, rfl, hcell⟩ := hx (by omega)
  have HR : Hid (w2.rangeAt b off (u8s s)) := Lib.hid hcell
  clear ho hb2 hx hcell
  go_wp2_with (first
    | (refine s2a 23 _ rfl rfl rfl Try.underlying23 (by omega) ?_)
    | (refine ld 23 _ rfl rfl rfl HR.out Try.underlying23 rfl (by rw [HS.out]; kernel_rfl) ?_)
    | (refine bld 25 _ rfl rfl rfl HBL.out ?_)
    | (refine stBlk 25 (.tmp 4) (.tmp 11) rfl rfl rfl rfl HE2.out hsz2 hsz h1 ?_; intro w3 hB3 hb3 _ _; have HB3 := Lib.hid hB3; have HE3 := Lib.hid hb3; clear hB3 hb3))
  refine bodyPost_ret (results_cell_row rfl _ _ w.heap.size 25 _ (0, 0) _ rfl HB3.out Try.underlying25 rfl hsz2) rfl ⟨rfl, ?_⟩
  exact HB2.out.trans (HE3.out.mono (Nat.le_refl _))
end Go.Proofs.Ytillkpjflcgkeaa
namespace Go.Proofs.Ytillkpjflcgkeaa
open Go.RowKit

theorem mapM_of {α β : Type} {f : α → Option β} {g : α → β} : ∀ {L : List α}, (∀ x ∈ L, f x = some (g x)) → L.mapM f = some (L.map g)
  | [], _ => rfl
  | x :: L, h => by
    rw [List.mapM_cons, h x (by simp), mapM_of (fun y hy => h y (by simp [hy]))]
    rfl
theorem lits_u8 (D : Nat) (n : Int) (h : 0 ≤ n ∧ n ≤ 255) : Try.prog.keyLits (D + 1) 5 [.int .u8 n] = some [.int .u8 n] := by
  unfold Program.keyLits
  rw [Try.underlying5]
  have : (Lit.int .u8 n).wf = true := by simp [Lit.wf, IntKind.min, IntKind.max, IntKind.signed, IntKind.bits]; omega
  simp [this]
theorem lits_dig (D : Nat) {d : List Int} (h : DigOk d) : Try.prog.keyLits (D + 2) 23 (u8s d) = some (d.map (Lit.int .u8)) := by
  have hc : Try.prog.cellsOf 23 = 32 := by kernel_rfl
  have hc1 : Try.prog.cellsOf 5 = 1 := by kernel_rfl
  have hl : (u8s d).length = 32 := by simp [u8s, h.len]
  unfold Program.keyLits
  rw [Try.underlying23]
  simp only [hc, hl, hc1, if_true, Nat.mul_one]
  rw [mapM_of (g := fun i => [Lit.int .u8 (d.getD i 0)]) (fun i hi => ?_)]
  · simp only [Option.map_some, Option.some.injEq]
    have hfl : ((List.range 32).map fun i => [Lit.int .u8 (d.getD i 0)]).flatten = (List.range 32).map fun i => Lit.int .u8 (d.getD i 0) := by
      rw [← List.flatMap_def, ← List.map_eq_flatMap]
    rw [hfl]
    apply List.ext_getElem
    · simp [h.len]
    · intro i h1 h2
      have hi : i < 32 := by simpa [h.len] using h2
      simp [show i < d.length by rw [h.len]; exact hi]
  · have hi : i < 32 := by simpa using hi
    have hlt : i < d.length := by rw [h.len]; exact hi
    have e : ((u8s d).drop i).take 1 = [.int .u8 (d.getD i 0)] := by
      have hlt' : i < (u8s d).length := by rw [hl]; exact hi
      rw [List.drop_eq_getElem_cons hlt']
      simp [u8s, hlt]
    rw [e]
    exact lits_u8 D _ (h.byte _ (by simp [hlt]))
theorem lits_ent {p : List Int × Int} (hp : EntOk p) : Try.prog.keyLits 3 25 (entP p) = some (p.1.map (Lit.int .u8) ++ [Lit.int .i64 p.2]) := by
  have hc : Try.prog.cellsOf 25 = 33 := by kernel_rfl
  have hc1 : Try.prog.cellsOf 23 = 32 := by kernel_rfl
  have hc2 : Try.prog.cellsOf 2 = 1 := by kernel_rfl
  have hl := entP_length p hp
  have h32 : (u8s p.1).length = 32 := by simp [u8s, hp.dig.len]
  have e1 : (entP p).take 32 = u8s p.1 := by unfold entP entC; rw [List.take_append_of_le_length (by omega), List.take_of_length_le (by omega)]
  have e2 : ((entP p).drop 32).take 1 = [.int .i64 p.2] := by unfold entP entC; rw [List.drop_append_of_le_length (by omega), List.drop_of_length_le (by omega)]; rfl
  have k2 : Try.prog.keyLits 2 2 [.int .i64 p.2] = some [Lit.int .i64 p.2] := by
    unfold Program.keyLits
    rw [Try.underlying2]
    simp [wf_i64 hp.exp]
  unfold Program.keyLits
  rw [Try.underlying25]
  simp [hc, hl, hc1, hc2, e1, e2, lits_dig 0 hp.dig, k2]
theorem lits_inj {p q : List Int × Int} (h : p.1.map (Lit.int .u8) ++ [Lit.int .i64 p.2] = q.1.map (Lit.int .u8) ++ [Lit.int .i64 q.2]) : p = q := by
  have h1 := List.append_inj' h rfl
  have h2 : p.1 = q.1 := by
    have key : ∀ a b : List Int, a.map (Lit.int .u8) = b.map (Lit.int .u8) → a = b := by
      intro a
      induction a with
      | nil => intro b hb; cases b with
        | nil => rfl
        | cons => simp at hb
      | cons x a ih => intro b hb; cases b with
        | nil => simp at hb
        | cons y b =>
          simp only [List.map_cons, List.cons.injEq, Lit.int.injEq, true_and] at hb
          rw [hb.1, ih b hb.2]
    exact key _ _ h1.1
  have h3 : p.2 = q.2 := by simpa using h1.2
  exact Prod.ext h2 h3
set_option maxRecDepth 100000 in
theorem run_eqE {p q : List Int × Int} (hp : EntOk p) (hq : EntOk q) (w : World) : (Op.equalIn 10000 25 (.agg (entP p).toArray) (.agg (entP q).toArray)).run Try.prog w = .ok (decide (p = q)) w := by
  have hu := Try.underlying25
  have hc : Try.prog.cellsOf 25 = 33 := by kernel_rfl
  have form : ∀ x : List Int × Int, EntOk x → Value.formed Try.prog 25 (.agg (entP x).toArray) = true := fun x hx => by
    unfold Value.formed
    rw [hu]
    simp [hc, entP_length x hx]
  have cells : ∀ x : List Int × Int, (Value.agg (entP x).toArray).cells.toList = entP x := fun x => by
    show (entP x).toArray.toList = _
    simp
  obtain ⟨r, hr, hiff⟩ := run_equalIn_deep (P := Try.prog) 9997 3 25 (by kernel_rfl) w 3 3 (.agg (entP p).toArray) (.agg (entP q).toArray) _ _ (form p hp) (form q hq) (by rw [cells]; exact lits_ent hp) (by rw [cells]; exact lits_ent hq)
  rw [hr]
  congr 1
  by_cases h : p = q
  · subst h
    simpa using hiff.2 rfl
  · have : ¬ r = true := fun e => h (lits_inj (hiff.1 e))
    simpa [h] using this
end Go.Proofs.Ytillkpjflcgkeaa
