/- Parts: Plain: opening a log. | rcache: what the operations do to the size of a disk; plans (plain). -/
import Derived.Test.YtombncedfleljaaGreatMK27
import Derived.Test.YtombncedfleljaaGreatMK26
namespace Go.Proofs.YtombncedfleljaaGreat
open Go.RowKit
attribute [local irreducible] wpQuiet wpAnyH
set_option linter.unusedSimpArgs false

theorem part1_zero : part1 0 = zsec := by unfold part1; simp
theorem tag_zsec : tagS zsec = 0 := by rw [← part1_zero]; exact (part1_none (by omega)).2
theorem Fresh.tag {sec : List (List Int)} {h : Nat} (f : Fresh sec h) : ∀ s ∈ sec, tagS s ≤ 0 := by
  intro s hs
  obtain ⟨a, ha, rfl⟩ := mem_getD hs
  obtain ⟨c, hc, he⟩ := f.ex
  match a with
  | 0 => rw [he, (part1_none hc).2]; exact Nat.le_refl _
  | a + 1 => rw [f.zs _ (by omega) ha, tag_zsec]; exact Nat.le_refl _
theorem Fresh.scan {sec : List (List Int)} {h : Nat} (f : Fresh sec h) (s : Nat) (hs : s < 2) : (scanL (none, []) ((sec.drop (sFrom h s)).take h)).1 = none := by
  cases hg : (scanL (none, []) ((sec.drop (sFrom h s)).take h)).1 with
  | none => rfl
  | some g =>
    obtain ⟨x, hx, hp⟩ := scan_gen hg
    have h1 := f.h1
    have hln := f.ln
    have hsd := sides (h := h) hs
    have hx2 : x = sec.getD (sFrom h s) [] := by
      have := drop_getD sec (sFrom h s) h 0 (by omega) (by omega)
      rw [Nat.add_zero] at this
      rw [← this, List.getD_eq_getElem?_getD, ← List.head?_eq_getElem?, hx]
      rfl
    rcases hsd with ⟨e, _⟩ | ⟨e, _⟩
    · obtain ⟨c, hc, he⟩ := f.ex
      rw [e, he] at hx2
      rw [hx2, (part1_none hc).1] at hp
      cases hp
    · rw [e, f.zs h (by omega) (by omega)] at hx2
      rw [hx2, prsH_zsec] at hp
      cases hp
theorem openF_none {d : DiskD} (h : ∀ s, s < 2 → (scanL (none, []) ((d.sec.drop (sFrom (d.sec.length / 2) s)).take (d.sec.length / 2))).1 = none) : (openF d).1 = none := by
  unfold openF
  generalize d.sec.length / 2 = f at *
  show (fNext 1 (slotS d (sFrom f 1) f) (fNext 0 (slotS d (sFrom f 0) f) (none, _))).1 = none
  rw [fNext_none (k := 0) (S := slotS d (sFrom f 0) f) (h 0 (by omega)), fNext_none (k := 1) (S := slotS d (sFrom f 1) f) (h 1 (by omega))]
theorem live_first {sec sec' : List (List Int)} {h : Nat} (f : Fresh sec h) (hl : sec'.length = sec.length) (h0 : sec'.getD 0 [] = rec 1 toll) (ho : ∀ a, 0 < a → a < sec.length → sec'.getD a [] = sec.getD a []) : Live sec' h 0 1 [] := by
  have h1 := f.h1
  have hln := f.ln
  refine ⟨by omega, by rw [hl]; exact hln, by simp; omega, by omega, h0, (fun i hi => by simp at hi), (fun q hq => by cases hq), ?_, ?_⟩
  · intro i _ hh
    show tagS (sec'.getD (0 + 1 + i) []) ≠ 1
    rw [ho _ (by omega) (by omega), f.zs _ (by omega) (by omega), tag_zsec]
    omega
  · show tagS (sec'.getD h []) < 1
    rw [ho _ (by omega) (by omega), f.zs _ (by omega) (by omega), tag_zsec]
    omega
theorem fresh_keep {sec sec' : List (List Int)} {h : Nat} (f : Fresh sec h) (hl : sec'.length = sec.length) {c : Nat} (hc : c < 64) (h0 : sec'.getD 0 [] = part1 c) (ho : ∀ a, 0 < a → a < sec.length → sec'.getD a [] = sec.getD a []) : Fresh sec' h :=
  ⟨f.h1, by rw [hl]; exact f.ln, ⟨c, hc, h0⟩, fun a h1 h2 => by rw [hl] at h2; rw [ho a h1 h2]; exact f.zs a h1 h2⟩
theorem openS_some {d : DiskD} {es : List Ent2} {L : LogD} (h : openF d = (some es, L)) : openS d = (none, d, some (L, es)) := by
  unfold openS
  rw [h]
theorem sb_open {P : Nat → List Ent2 → Prop} {N K : Nat} {d : DiskD} (hmono : P 0 [] → P 1 []) (h : SB P N K d) (hk : DOk d) (hN : 2 ≤ N) (hK : K + 1 < 256) :
    (∃ x, (openR d).1 = some x ∧ (openR d).2.2 = none ∧ SB P N (K + 1) (openR d).2.1) ∨ (∃ L es, (openR d).1 = none ∧ (openR d).2.2 = some (L, es) ∧ SA P N (K + 1) (openR d).2.1 L es) := by
  have hlen := h.len
  unfold openR
  rw [if_neg (by omega)]
  cases hs : syncA d with
  | some x =>
    refine .inl ⟨x, rfl, rfl, ?_⟩
    obtain ⟨_, hr⟩ := sync_fail hs
    show SB P N (K + 1) (syncS d)
    rcases hr with ⟨h1, h2⟩ | ⟨h1, cl, h2⟩
    · exact (h.disk h1 h2).imp (fun _ _ h => h) (by omega)
    · have hc := h.crash hk (by omega) cl
      exact (hc.disk h2 h1).imp (fun _ _ h => h) (by omega)
  | none =>
    simp only
    obtain ⟨hd, ho⟩ := syncS_ok hs
    obtain ⟨d1, hd1⟩ : ∃ d1, d1 = syncS d := ⟨_, rfl⟩
    have hsec : ∃ cl, d1.sec = crashL d.sec d.opn cl := by
      obtain ⟨cl, hcl⟩ := crash_wholeL d.sec d.opn hk.sec hk.opn
      refine ⟨cl, ?_⟩
      rw [hd1, (syncA_none hs).2, hcl]
      rfl
    rw [← hd1] at hd ho ⊢
    obtain ⟨cl, hcl⟩ := hsec
    have hg := h.gd cl
    have hct := h.crash hk (by omega) cl
    have htg : ∀ s ∈ d1.sec, tagS s ≤ K := by rw [hcl]; exact hct.tg
    have hlen1 : d1.sec.length = N := by rw [hcl, crashL_len]; exact hlen
    have hsc1 : ∀ s ∈ d1.sec, Sec s := by rw [hcl]; exact crashL_sec cl hk.sec hk.opn
    rw [← hcl] at hg
    rw [← hlen1] at hg
    rcases hg with ⟨s, g, es, hlv, hp⟩ | ⟨hf, hp⟩
    · have hop := openF_live hlv
      rw [openS_some hop]
      refine .inr ⟨_, _, rfl, rfl, ⟨rfl, ho, hlen1, by rw [← hlen1]; exact hlv, rfl, hp, fun x hx => ?_, ?_⟩⟩
      · obtain ⟨a, ha, rfl⟩ := mem_getD hx
        have := lastN_ge hd ho d1.sec.length (Nat.le_refl _) a ha
        exact Nat.le_trans this (Nat.le_max_left _ _)
      · have h1 := lastN_le hd ho K htg d1.sec.length (Nat.le_refl _)
        have hsd := sides (h := d1.sec.length / 2) hlv.s2
        have hfit := hlv.fit
        have hln := hlv.ln
        have h2 := htg _ (getD_mem (show sFrom (d1.sec.length / 2) s < d1.sec.length by omega))
        rw [hlv.hd, tag_head g hlv.g4] at h2
        show max (lastN d1 d1.sec.length) g ≤ K + 1
        omega
    · have hof := openF_none (fun s hs => hf.scan s hs)
      have hla : lastN d1 d1.sec.length = 0 := by
        have := lastN_le hd ho 0 hf.tag d1.sec.length (Nat.le_refl _)
        omega
      have hpos : 0 < d1.sec.length := by omega
      obtain ⟨c, hc, he⟩ := hf.ex
      unfold openS
      rw [hof, hla]
      simp only [show ¬ ((0 : Nat) = 4294967295) by omega, if_false, Nat.zero_add]
      cases hw : wsA d1 0 (rec 1 toll) with
      | some x =>
        obtain ⟨_, hr⟩ := ws_fail ho (hasB_nat hpos) hw
        refine .inl ⟨x, rfl, rfl, ?_⟩
        show SB P N (K + 1) (wsD d1 0 (rec 1 toll))
        refine SB.of_rst hr hlen1 hsc1 (fun p hp => ?_) (by simp) (fun s hs => by have := htg s hs; omega) (fun p hp => ?_) hK (fun j cl' => ?_)
        · rw [List.mem_singleton] at hp; rw [hp]; exact ⟨by show (0 : Int) ≤ 0; omega, by show (0 : Int) < _; omega, rec_sec 1⟩
        · rw [List.mem_singleton] at hp; rw [hp]; show tagS (rec 1 toll) ≤ _; rw [tag_head 1 (by omega)]; omega
        · rw [← hlen1]
          match j with
          | 0 => rw [List.take_zero, crash_nil]; exact .inr ⟨hf, hp⟩
          | j + 1 =>
            have e1 : crashL d1.sec (([(((0 : Nat) : Int), rec 1 toll)]).take (j + 1)) cl' = d1.sec.set 0 (tearL (d1.sec.getD 0 []) (rec 1 toll) (cl'.getD 0 0)) := by rw [List.take_succ_cons, List.take_nil]; exact crash_one' d1.sec 0 (rec 1 toll) cl'
            rw [e1, he]
            have ho1 : ∀ X, ∀ a, 0 < a → a < d1.sec.length → (d1.sec.set 0 X).getD a [] = d1.sec.getD a [] := fun X a h1 _ => by rw [getD_set _ _ _ _ hpos, if_neg (by omega)]
            rcases part1_tear c hc (cl'.getD 0 0) with h2 | ⟨c', hc', h2⟩
            · rw [h2]
              exact .inl ⟨0, 1, [], live_first hf (List.length_set ..) (by rw [getD_set _ _ _ _ hpos, if_pos rfl]) (ho1 _), hmono hp⟩
            · rw [h2]
              exact .inr ⟨fresh_keep hf (List.length_set ..) hc' (by rw [getD_set _ _ _ _ hpos, if_pos rfl]) (ho1 _), hp⟩
      | none =>
        obtain ⟨k1, k2, k3⟩ := wsA_none hw
        rw [ho, List.nil_append] at k3
        have hset : (wsD d1 0 (rec 1 toll)).sec = d1.sec.set 0 (rec 1 toll) := k3
        refine .inr ⟨_, _, rfl, rfl, ?_⟩
        show SA P N (K + 1) (wsD d1 0 (rec 1 toll)) ⟨0, 0, 1, 0, false⟩ []
        refine ⟨rfl, k2, by rw [hset, List.length_set]; exact hlen1, ?_, rfl, hmono hp, fun s hs => ?_, by show max 0 1 ≤ K + 1; omega⟩
        · rw [← hlen1]
          exact live_first hf (by rw [hset, List.length_set]) (by rw [hset, getD_set _ _ _ _ hpos, if_pos rfl]) (fun a h1 _ => by rw [hset, getD_set _ _ _ _ hpos, if_neg (by omega)])
        · rw [hset] at hs
          show tagS s ≤ max 0 1
          rcases List.mem_or_eq_of_mem_set hs with h1 | h1
          · have := hf.tag s h1; omega
          · rw [h1, tag_head 1 (by omega)]; omega
theorem fresh_new (n : Nat) (hn : 2 ≤ n) : Fresh (List.replicate n zsec) (n / 2) := by
  refine ⟨by omega, by rw [List.length_replicate]; omega, ⟨0, by omega, ?_⟩, fun a _ ha => ?_⟩
  · rw [part1_zero]
    rw [List.getD_eq_getElem?_getD, List.getElem?_replicate, if_pos (by omega)]
    rfl
  · rw [List.length_replicate] at ha
    rw [List.getD_eq_getElem?_getD, List.getElem?_replicate, if_pos ha]
    rfl
theorem sb_new {P : Nat → List Ent2 → Prop} (n : Nat) (hn : 2 ≤ n) (hp : P 0 []) : SB P n 0 (newD n) :=
  ⟨List.nodup_nil, List.length_replicate, (fresh_new n hn).tag, (fun p hp => by cases hp), fun cl => by show Good P (n / 2) (crashL (List.replicate n zsec) [] cl); rw [crash_nil]; exact .inr ⟨fresh_new n hn, hp⟩⟩
end Go.Proofs.YtombncedfleljaaGreat
namespace Go.Proofs.YtombncedfleljaaGreat
open Go.RowKit
attribute [local irreducible] wpQuiet wpAnyH
set_option linter.unusedSimpArgs false

section
variable {d : DiskD}
theorem appD_bd {d : DiskD} (h : d.steps ≤ d.room) (hh : Nat) (L : LogD) (q : Ent2) : (appD d hh L q).room ≤ d.room + 3 := by
  unfold appD
  split
  · omega
  · unfold putD
    split
    · omega
    · split
      · omega
      · split
        · exact (wsD_bd h _ _).2.1
        · omega
theorem rewR_bd {d : DiskD} (h : d.steps ≤ d.room) (hh : Nat) (L : LogD) (qs : List Ent2) : (rewR d hh L qs).2.1.room ≤ d.room + 2 * qs.length + 4 := by
  unfold rewR
  split
  · show d.room ≤ _; omega
  · split
    · show d.room ≤ _; omega
    · unfold rewS
      have h1 := fillR_bd h (sFrom hh (1 - L.side)) hh (max L.last L.gen + 1) qs
      have h2 := wsD_bd h1.1 (sFrom hh (1 - L.side)) (rec (max L.last L.gen + 1) toll)
      have h3 := h1.2.1
      have h4 := h2.2.1
      unfold rewW
      split
      · show (fillR d (sFrom hh (1 - L.side)) hh (max L.last L.gen + 1) qs).2.room ≤ _; omega
      · split
        · show (wsD (fillR d (sFrom hh (1 - L.side)) hh (max L.last L.gen + 1) qs).2 _ _).room ≤ _; omega
        · show (wsD (fillR d (sFrom hh (1 - L.side)) hh (max L.last L.gen + 1) qs).2 _ _).room ≤ _; omega
theorem openR_bd {d : DiskD} (h : d.steps ≤ d.room) : (openR d).2.1.room ≤ d.room + 4 := by
  have h1 := syncS_bd h
  have h2 := h1.2.1
  unfold openR
  split
  · show d.room ≤ _; omega
  · split
    · show (syncS d).room ≤ _; omega
    · unfold openS
      have h3 := wsD_bd h1.1 0 (rec (lastN (syncS d) (syncS d).sec.length + 1) toll)
      have h4 := h3.2.1
      split
      · show (syncS d).room ≤ _; omega
      · split
        · show (syncS d).room ≤ _; omega
        · split
          · show (wsD (syncS d) 0 _).room ≤ _; omega
          · show (wsD (syncS d) 0 _).room ≤ _; omega
end
theorem appD_len (d : DiskD) (h : Nat) (L : LogD) (q : Ent2) : (appD d h L q).sec.length = d.sec.length := by
  unfold appD
  split
  · rfl
  · exact putD_len _ _ _ _ _ _
theorem rewR_len (d : DiskD) (h : Nat) (L : LogD) (qs : List Ent2) : (rewR d h L qs).2.1.sec.length = d.sec.length := by
  unfold rewR
  split
  · rfl
  · split
    · rfl
    · unfold rewS rewW
      split
      · exact fillR_len _ _ _ _ _
      · split
        · show (wsD _ _ _).sec.length = _
          rw [wsD_len, fillR_len]
        · show (wsD _ _ _).sec.length = _
          rw [wsD_len, fillR_len]
theorem openR_len (d : DiskD) : (openR d).2.1.sec.length = d.sec.length := by
  unfold openR
  split
  · rfl
  · split
    · exact syncS_len d
    · unfold openS
      split
      · exact syncS_len d
      · split
        · exact syncS_len d
        · split
          · show (wsD _ _ _).sec.length = _
            rw [wsD_len, syncS_len]
          · show (wsD _ _ _).sec.length = _
            rw [wsD_len, syncS_len]
section
variable {d : DiskD}
theorem SB.pF {P : Nat → List Ent2 → Prop} {N K : Nat} (h : SB P N K d) (n : Int) : SB P N K (planF d n) := by
  unfold planF
  split
  · exact h
  · exact h.disk rfl rfl
theorem SA.pF {P : Nat → List Ent2 → Prop} {N K : Nat} {L : LogD} {es : List Ent2} (h : SA P N K d L es) (n : Int) : SA P N K (planF d n) L es := by
  unfold planF
  split
  · exact h
  · exact h.disk rfl rfl
theorem SB.pC {P : Nat → List Ent2 → Prop} {N K : Nat} (h : SB P N K d) (n : Int) (cl : List Int) : SB P N K (planC d n cl) := by
  unfold planC
  split
  · exact h
  · exact h.disk rfl rfl
theorem SA.pC {P : Nat → List Ent2 → Prop} {N K : Nat} {L : LogD} {es : List Ent2} (h : SA P N K d L es) (n : Int) (cl : List Int) : SA P N K (planC d n cl) L es := by
  unfold planC
  split
  · exact h
  · exact h.disk rfl rfl
theorem plan_bd (d : DiskD) (n : Int) (cl : List Int) : ((planF d n).room ≤ d.room + 1 ∧ (planF d n).sec.length = d.sec.length) ∧ (planC d n cl).room ≤ d.room + 1 ∧ (planC d n cl).sec.length = d.sec.length := by
  unfold planF planC
  constructor
  · split
    · exact ⟨by omega, rfl⟩
    · exact ⟨Nat.le_refl _, rfl⟩
  · split
    · exact ⟨by omega, rfl⟩
    · exact ⟨Nat.le_refl _, rfl⟩
end
end Go.Proofs.YtombncedfleljaaGreat
