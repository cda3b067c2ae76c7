import Derived.Test.YtillkpjflcgkeaaGreatMT35
import Derived.Test.YtillkpjflcgkeaaGreatMT1
import Derived.DeepKeys
import Derived.Deep.MidRow
import Derived.WideKeyArr
import Derived.DeepKeys2
import Derived.Test.YtillkpjflcgkeaaGreatMT7
set_option linter.unusedSimpArgs false
set_option maxRecDepth 100000
namespace Go.Proofs.YtillkpjflcgkeaaGreat
open Go.RowKit
attribute [local irreducible] wpQuiet wpAnyH
def part1 (c : Nat) : List Int := (rec 1 toll).take c ++ zsec.drop c
structure Fresh (sec : List (List Int)) (h : Nat) : Prop where
 h1 : 1 ≤ h
 ln : h + h ≤ sec.length
 ex : ∃ c, c < 64 ∧ sec.getD 0 [] = part1 c
 zs : ∀ a, 0 < a → a < sec.length → sec.getD a [] = zsec
theorem part1_all : (List.range 64).all (fun c => (prsH (part1 c)).isNone && (tagS (part1 c) == 0)) = true := by kernel_rfl
theorem part1_none {c : Nat} (h : c < 64) : prsH (part1 c) = none ∧ tagS (part1 c) = 0 := by
 have := List.all_eq_true.1 part1_all c (List.mem_range.2 h)
 simpa using this
def Good (P : Nat → List Ent2 → Prop) (h : Nat) (sec : List (List Int)) : Prop := (∃ s g es, Live sec h s g es ∧ P g es) ∨ (Fresh sec h ∧ P 0 [])
theorem Good.imp {P P' : Nat → List Ent2 → Prop} {h : Nat} {sec : List (List Int)} (k : Good P h sec) (hp : ∀ g es, P g es → P' g es) : Good P' h sec :=
 Or.imp (fun ⟨s, g, es, h1, h2⟩ => ⟨s, g, es, h1, hp _ _ h2⟩) (fun ⟨h1, h2⟩ => ⟨h1, hp _ _ h2⟩) k
structure SA (P : Nat → List Ent2 → Prop) (N K : Nat) (d : DiskD) (L : LogD) (es : List Ent2) : Prop where
 brk : L.brk = false
 opn : d.opn = []
 len : d.sec.length = N
 lv : Live d.sec (N / 2) L.side L.gen es
 cnt : L.cnt = es.length
 p : P L.gen es
 tg : ∀ s ∈ d.sec, tagS s ≤ max L.last L.gen
 k : max L.last L.gen ≤ K
structure SB (P : Nat → List Ent2 → Prop) (N K : Nat) (d : DiskD) : Prop where
 nd : (d.opn.map (·.1)).Nodup
 len : d.sec.length = N
 tg : ∀ s ∈ d.sec, tagS s ≤ K
 tw : ∀ p ∈ d.opn, tagS p.2 ≤ K
 gd : ∀ cl, Good P (N / 2) (crashL d.sec d.opn cl)
theorem crash_nil (sec : List (List Int)) (cl : List Int) : crashL sec [] cl = sec := by unfold crashL; rfl
theorem crash_wholeL (sec : List (List Int)) (opn : List (Int × List Int)) (hsec : ∀ s ∈ sec, Sec s) (hopn : ∀ p ∈ opn, 0 ≤ p.1 ∧ p.1 < sec.length ∧ Sec p.2) : ∃ cl, crashL sec opn cl = syncN sec opn opn.length := by
 refine ⟨List.replicate opn.length 64, ?_⟩
 unfold crashL
 have key : ∀ j, j ≤ opn.length → tornN (fun j => (List.replicate opn.length 64).getD j 0) sec opn j = syncN sec opn j := by
  intro j
  induction j with
  | zero => exact fun _ => rfl
  | succ j ih =>
   intro hj
   have hlt : j < opn.length := by omega
   have hp := hopn _ (List.getElem_mem hlt)
   have hgd : opn.getD j (0, []) = opn[j] := by simp [hlt]
   have h64 : (List.replicate opn.length (64 : Int)).getD j 0 = 64 := by simp [hlt]
   rw [tornN, syncN, ih (by omega), hgd, h64]
   have hl : opn[j].1.toNat < (syncN sec opn j).length := by rw [syncN_len]; omega
   have hs : Sec ((syncN sec opn j).getD opn[j].1.toNat []) := by
    rw [← ih (by omega)]
    exact tornN_sec _ sec opn hsec hopn j (by omega) _ (by
     have h2 : opn[j].1.toNat < (tornN (fun j => (List.replicate opn.length 64).getD j 0) sec opn j).length := by rw [tornN_len]; omega
     exact getD_mem h2)
   rw [tearL_all 64 hs.1 hp.2.2.1 (by omega)]
 exact key _ (Nat.le_refl _)
theorem SB.imp {P P' : Nat → List Ent2 → Prop} {N K K' : Nat} {d : DiskD} (h : SB P N K d) (hp : ∀ g es, P g es → P' g es) (hK : K ≤ K') : SB P' N K' d :=
 ⟨h.nd, h.len, fun s hs => Nat.le_trans (h.tg s hs) hK, fun p hq => Nat.le_trans (h.tw p hq) hK, fun cl => (h.gd cl).imp hp⟩
theorem SA.imp {P P' : Nat → List Ent2 → Prop} {N K K' : Nat} {d : DiskD} {L : LogD} {es : List Ent2} (h : SA P N K d L es) (hp : P L.gen es → P' L.gen es) (hK : K ≤ K') : SA P' N K' d L es :=
 ⟨h.brk, h.opn, h.len, h.lv, h.cnt, hp h.p, h.tg, Nat.le_trans h.k hK⟩
theorem SA.disk {P : Nat → List Ent2 → Prop} {N K : Nat} {d d' : DiskD} {L : LogD} {es : List Ent2} (h : SA P N K d L es) (hs : d'.sec = d.sec) (ho : d'.opn = d.opn) : SA P N K d' L es :=
 ⟨h.brk, ho.trans h.opn, by rw [hs]; exact h.len, by rw [hs]; exact h.lv, h.cnt, h.p, by rw [hs]; exact h.tg, h.k⟩
theorem SB.disk {P : Nat → List Ent2 → Prop} {N K : Nat} {d d' : DiskD} (h : SB P N K d) (hs : d'.sec = d.sec) (ho : d'.opn = d.opn) : SB P N K d' :=
 ⟨by rw [ho]; exact h.nd, by rw [hs]; exact h.len, by rw [hs]; exact h.tg, by rw [ho]; exact h.tw, by rw [hs, ho]; exact h.gd⟩
def Rst (sec : List (List Int)) (W : List (Int × List Int)) (d : DiskD) : Prop := (d.sec = sec ∧ ∃ j, d.opn = W.take j) ∨ (d.opn = [] ∧ ∃ j cl, d.sec = crashL sec (W.take j) cl)
theorem write_fail {d : DiskD} {a : Int} {x : Int × Option Int} (h : writeA d a = some x) (hb : hasB d a = true) (s : List Int) : (x.1 = 11 ∨ x.1 = 12) ∧ (((writeD d a s).sec = d.sec ∧ (writeD d a s).opn = d.opn) ∨ ((writeD d a s).opn = [] ∧ ∃ cl, (writeD d a s).sec = crashL d.sec (d.opn ++ [(a, s)]) cl)) := by
 unfold writeA at h
 unfold writeD
 cases hd : d.down with
 | true =>
  rw [hd] at h
  simp only [if_true, Option.some.injEq] at h
  exact ⟨by rw [← h]; exact .inr rfl, .inl ⟨rfl, rfl⟩⟩
 | false =>
  rw [hd] at h
  simp only [Bool.false_eq_true, if_false] at h ⊢
  split at h
  ·rename_i h2
   rw [if_pos h2]
   simp only [Option.some.injEq] at h
   refine ⟨by rw [← h]; exact .inr rfl, .inr ⟨rfl, cutsS d, ?_⟩⟩
   unfold addIf
   rw [show hasB (stepped d) a = hasB d a from rfl, hb]
   rfl
  ·rename_i h2
   split at h
   ·rename_i h1
    rw [if_neg h2, if_pos h1]
    simp only [Option.some.injEq] at h
    exact ⟨by rw [← h]; exact .inl rfl, .inl ⟨rfl, rfl⟩⟩
   ·simp [hb] at h
theorem sync_fail {d : DiskD} {x : Int × Option Int} (h : syncA d = some x) : (x.1 = 11 ∨ x.1 = 12) ∧ (((syncS d).sec = d.sec ∧ (syncS d).opn = d.opn) ∨ ((syncS d).opn = [] ∧ ∃ cl, (syncS d).sec = crashL d.sec d.opn cl)) := by
 unfold syncA at h
 unfold syncS
 cases hd : d.down with
 | true =>
  rw [hd] at h
  simp only [if_true, Option.some.injEq] at h
  exact ⟨by rw [← h]; exact .inr rfl, .inl ⟨rfl, rfl⟩⟩
 | false =>
  rw [hd] at h
  simp only [Bool.false_eq_true, if_false] at h ⊢
  split at h
  ·rename_i h2
   rw [if_pos h2]
   simp only [Option.some.injEq] at h
   exact ⟨by rw [← h]; exact .inr rfl, .inr ⟨rfl, cutsS d, rfl⟩⟩
  ·rename_i h2
   split at h
   ·rename_i h1
    rw [if_neg h2, if_pos h1]
    simp only [Option.some.injEq] at h
    exact ⟨by rw [← h]; exact .inl rfl, .inl ⟨rfl, rfl⟩⟩
   ·cases h
theorem ws_fail {d : DiskD} {a : Int} {s : List Int} {x : Int × Option Int} (ho : d.opn = []) (hb : hasB d a = true) (h : wsA d a s = some x) : (x.1 = 11 ∨ x.1 = 12) ∧ Rst d.sec [(a, s)] (wsD d a s) := by
 unfold wsA at h
 unfold wsD
 cases hw : writeA d a with
 | some y =>
  rw [hw] at h
  simp only [Option.some.injEq] at h
  subst h
  obtain ⟨h1, h2⟩ := write_fail hw hb s
  rw [ho] at h2
  refine ⟨h1, ?_⟩
  rcases h2 with ⟨h2, h3⟩ | ⟨h2, cl, h3⟩
  ·exact .inl ⟨h2, 0, h3⟩
  ·exact .inr ⟨h2, 1, cl, h3⟩
 | none =>
  rw [hw] at h
  simp only at h
  obtain ⟨_, _, hW⟩ := writeA_none hw s
  obtain ⟨h1, h2⟩ := sync_fail h
  rw [hW] at h2
  have hs : (addD (stepped d) a s).sec = d.sec := rfl
  have hop : (addD (stepped d) a s).opn = [(a, s)] := by show d.opn ++ [(a, s)] = _; rw [ho]; rfl
  rw [hs, hop] at h2
  refine ⟨h1, ?_⟩
  rw [hW]
  rcases h2 with ⟨h2, h3⟩ | ⟨h2, cl, h3⟩
  ·exact .inl ⟨h2, 1, h3⟩
  ·exact .inr ⟨h2, 1, cl, h3⟩
theorem SB.of_rst {P : Nat → List Ent2 → Prop} {N K : Nat} {sec : List (List Int)} {W : List (Int × List Int)} {d : DiskD} (h : Rst sec W d) (hlen : sec.length = N) (hsec : ∀ s ∈ sec, Sec s) (hw : ∀ p ∈ W, 0 ≤ p.1 ∧ p.1 < sec.length ∧ Sec p.2) (hnd : (W.map (·.1)).Nodup) (ht : ∀ s ∈ sec, tagS s ≤ K) (hto : ∀ p ∈ W, tagS p.2 ≤ K) (hK : K < 256)
  (hg : ∀ j cl, Good P (N / 2) (crashL sec (W.take j) cl)) : SB P N K d := by
 have hnj : ∀ j, ((W.take j).map (·.1)).Nodup := fun j => by rw [List.map_take]; exact hnd.sublist (List.take_sublist _ _)
 have hnear : ∀ j cl, Near sec (W.take j) (crashL sec (W.take j) cl) := fun j cl => near_crash hsec (fun p hp => hw p (List.mem_of_mem_take hp)) (hnj j) (fun s hs => by have := ht s hs; omega) (fun p hp => by have := hto p (List.mem_of_mem_take hp); omega) cl
 rcases h with ⟨h1, j, h2⟩ | ⟨h1, j, cl, h2⟩
 ·exact ⟨by rw [h2]; exact hnj j, by rw [h1]; exact hlen, by rw [h1]; exact ht, by rw [h2]; exact fun p hp => hto p (List.mem_of_mem_take hp), fun cl => by rw [h1, h2]; exact hg j cl⟩
 ·exact ⟨by rw [h1]; exact List.nodup_nil, by rw [h2, crashL_len]; exact hlen, by rw [h2]; exact (hnear j cl).tags ht (fun p hp => hto p (List.mem_of_mem_take hp)), by rw [h1]; exact (fun p hp => by cases hp), fun cl' => by rw [h1, crash_nil, h2]; exact hg j cl⟩
theorem SB.crash {P : Nat → List Ent2 → Prop} {N K : Nat} {d : DiskD} (h : SB P N K d) (hk : DOk d) (hK : K < 256) (cl : List Int) : SB P N K (crashD d cl) where
 nd := List.nodup_nil
 len := (crashL_len _ _ _).trans h.len
 tg := (near_crash hk.sec hk.opn h.nd (fun s hs => by have := h.tg s hs; omega) (fun p hp => by have := h.tw p hp; omega) cl).tags h.tg h.tw
 tw := fun p hp => by cases hp
 gd := fun cl' => by
  show Good P (N / 2) (crashL (crashL d.sec d.opn cl) [] cl')
  rw [crash_nil]
  exact h.gd cl
theorem SA.crash {P : Nat → List Ent2 → Prop} {N K : Nat} {d : DiskD} {L : LogD} {es : List Ent2} (h : SA P N K d L es) (cl : List Int) : SA P N K (crashD d cl) L es := by
 have h1 : (crashD d cl).sec = d.sec := by show crashL d.sec d.opn cl = _; rw [h.opn, crash_nil]
 exact h.disk h1 (by rw [h.opn]; rfl)
theorem sides {h s : Nat} (hs : s < 2) : (sFrom h s = 0 ∧ sFrom h (1 - s) = h) ∨ (sFrom h s = h ∧ sFrom h (1 - s) = 0) := by
 have : s = 0 ∨ s = 1 := by omega
 rcases this with rfl | rfl
 ·exact .inl ⟨rfl, rfl⟩
 ·exact .inr ⟨rfl, rfl⟩
theorem live_keep {sec sec' : List (List Int)} {h s g : Nat} {es : List Ent2} (l : Live sec h s g es) (hl : sec'.length = sec.length) (h1 : ∀ a, sFrom h s ≤ a → a ≤ sFrom h s + es.length → sec'.getD a [] = sec.getD a [])
  (h2 : ∀ a, sFrom h s + es.length < a → a < sFrom h s + h → tagS (sec'.getD a []) = tagS (sec.getD a [])) (h3 : tagS (sec'.getD (sFrom h (1 - s)) []) = tagS (sec.getD (sFrom h (1 - s)) [])) : Live sec' h s g es where
 s2 := l.s2
 ln := by rw [hl]; exact l.ln
 fit := l.fit
 g4 := l.g4
 hd := (h1 _ (Nat.le_refl _) (by omega)).trans l.hd
 en := fun i hi => (h1 _ (by omega) (by omega)).trans (l.en i hi)
 eo := l.eo
 nx := fun i hi hh => by rw [h2 _ (by omega) (by omega)]; exact l.nx i hi hh
 ot := by rw [h3]; exact l.ot
theorem live_add {sec sec' : List (List Int)} {h s g : Nat} {es : List Ent2} {q : Ent2} (l : Live sec h s g es) (hq : EntOk q) (hr : rightE q = true) (hf : es.length + 2 ≤ h) (hl : sec'.length = sec.length) (hp : sec'.getD (sFrom h s + 1 + es.length) [] = entRec g q)
  (ho : ∀ a, a < sec.length → a ≠ sFrom h s + 1 + es.length → sec'.getD a [] = sec.getD a []) : Live sec' h s g (es ++ [q]) := by
 have hln := l.ln
 have hsd := sides (h := h) l.s2
 have hlen : (es ++ [q]).length = es.length + 1 := by simp
 refine ⟨l.s2, by rw [hl]; exact l.ln, by rw [hlen]; omega, l.g4, ?_, ?_, ?_, ?_, ?_⟩
 ·rw [ho _ (by omega) (by omega)]; exact l.hd
 ·intro i hi
  rw [hlen] at hi
  rcases Nat.lt_or_ge i es.length with h1 | h1
  ·rw [ho _ (by omega) (by omega), l.en i h1, List.getElem_append_left h1]
  ·have : i = es.length := by omega
   subst this
   rw [hp, List.getElem_append_right (Nat.le_refl _)]
   simp
 ·intro x hx
  rcases List.mem_append.1 hx with h1 | h1
  ·exact l.eo x h1
  ·rw [List.mem_singleton] at h1
   rw [h1]
   exact ⟨hq, hr⟩
 ·intro i hi hh
  rw [hlen] at hi
  rw [ho _ (by omega) (by omega)]
  exact l.nx i (by omega) hh
 ·rw [ho _ (by omega) (by omega)]
  exact l.ot
theorem getD_run {sec L : List (List Int)} {b : Nat} (hb : b + L.length ≤ sec.length) (a : Nat) : (setAll sec (wrs (b : Int) L)).getD a [] = if b ≤ a ∧ a < b + L.length then L.getD (a - b) [] else sec.getD a [] := by
 rw [set_run L b sec (by omega) (by rw [Int.toNat_natCast]; exact hb), Int.toNat_natCast]
 have hbl : (sec.take b).length = b := by rw [List.length_take]; omega
 rw [List.append_assoc]
 split
 ·rename_i h
  rw [List.getD_eq_getElem?_getD, List.getElem?_append_right (by omega), hbl, List.getElem?_append_left (by omega), ← List.getD_eq_getElem?_getD]
 ·rename_i h
  rcases Nat.lt_or_ge a b with h1 | h1
  ·rw [List.getD_eq_getElem?_getD, List.getElem?_append_left (by omega), List.getElem?_take_of_lt h1, ← List.getD_eq_getElem?_getD]
  ·rw [List.getD_eq_getElem?_getD, List.getElem?_append_right (by omega), hbl, List.getElem?_append_right (by omega), List.getElem?_drop, ← List.getD_eq_getElem?_getD]
   congr 1
   omega
theorem rec_sec (g : Nat) : Sec (rec g toll) := ⟨rec_length g toll (by decide), rec_bys g toll toll_bys⟩
theorem hasB_nat {d : DiskD} {a : Nat} (h : a < d.sec.length) : hasB d (a : Int) = true := by unfold hasB; simp; exact h
theorem noteL_brk {L : LogD} {c : Int} (h : c = 11 ∨ c = 12) : noteL L c = { L with brk := true } := by unfold noteL; rw [if_pos h]
theorem noteL_same {L : LogD} {c : Int} (h : c ≠ 11 ∧ c ≠ 12) : noteL L c = L := by unfold noteL; rw [if_neg (fun e => e.elim h.1 h.2)]
theorem room_half {h : Nat} (h1 : 1 ≤ h) : room (h : Int) = (h : Int) - 1 := by unfold room; rw [if_neg (by omega)]
theorem put_vals (d : DiskD) (f z p : Int) (g : Nat) (q : Ent2) (h1 : 1 ≤ p) : (room z < p ∧ putA d f z p g q = some (13, none) ∧ putD d f z p g q = d) ∨ (¬ room z < p ∧ rightE q = false ∧ putA d f z p g q = some (15, none) ∧ putD d f z p g q = d) ∨ (¬ room z < p ∧ rightE q = true ∧ putA d f z p g q = wsA d (f + p) (entRec g q) ∧ putD d f z p g q = wsD d (f + p) (entRec g q)) := by
 unfold putA putD
 have hp : ¬ p < 1 := by omega
 simp only [if_neg hp]
 by_cases h2 : room z < p
 ·simp only [if_pos h2]
  exact .inl ⟨h2, trivial, trivial⟩
 ·simp only [if_neg h2]
  cases hr : rightE q with
  | false => exact .inr (.inl ⟨h2, rfl, rfl, rfl⟩)
  | true => exact .inr (.inr ⟨h2, rfl, rfl, rfl⟩)
theorem sa_append {P P' : Nat → List Ent2 → Prop} {N K : Nat} {d : DiskD} {L : LogD} {es : List Ent2} (h : SA P N K d L es) (hk : DOk d) (hK : K < 256) {q : Ent2} (hq : EntOk q) (hP : P' L.gen es) (hP2 : P' L.gen (es ++ [q])) :
  (appA d (N / 2) L q = none ∧ SA P' N K (appD d (N / 2) L q) (appL d (N / 2) L q) (es ++ [q]) ∧ (appL d (N / 2) L q).gen = L.gen) ∨
  (∃ x, appA d (N / 2) L q = some x ∧ (x.1 = 11 ∨ x.1 = 12) ∧ SB P' N K (appD d (N / 2) L q) ∧ appL d (N / 2) L q = { L with brk := true }) ∨
  (∃ x, appA d (N / 2) L q = some x ∧ x.1 ≠ 11 ∧ x.1 ≠ 12 ∧ appD d (N / 2) L q = d ∧ appL d (N / 2) L q = L) := by
 have hlv := h.lv
 have hfit := hlv.fit
 have hg4 := hlv.g4
 have hsd := sides (h := N / 2) hlv.s2
 have hln := hlv.ln
 have hgk : L.gen ≤ K := by have := h.k; omega
 unfold appA appD appL
 rw [h.brk]
 simp only [Bool.false_eq_true, if_false]
 generalize hh : N / 2 = hf at *
 rcases put_vals d (sFrom hf L.side) hf ((L.cnt + 1 : Nat) : Int) L.gen q (by omega) with ⟨_, e1, e2⟩ | ⟨_, _, e1, e2⟩ | ⟨hr1, hrt, e1, e2⟩
 ·rw [e1, e2]
  exact .inr (.inr ⟨(13, none), rfl, by decide, by decide, rfl, noteL_same ⟨by decide, by decide⟩⟩)
 ·rw [e1, e2]
  exact .inr (.inr ⟨(15, none), rfl, by decide, by decide, rfl, noteL_same ⟨by decide, by decide⟩⟩)
 ·rw [e1, e2]
  rw [room_half (by omega), h.cnt] at hr1
  obtain ⟨p, hp⟩ : ∃ p : Nat, p = sFrom hf L.side + 1 + es.length := ⟨_, rfl⟩
  have hpi : (sFrom hf L.side : Int) + ((L.cnt + 1 : Nat) : Int) = (p : Int) := by have := h.cnt; omega
  have hpl : p < d.sec.length := by omega
  rw [hpi]
  cases hw : wsA d (p : Int) (entRec L.gen q) with
  | some x =>
   obtain ⟨hc, hrst⟩ := ws_fail h.opn (hasB_nat hpl) hw
   refine .inr (.inl ⟨x, rfl, hc, ?_, noteL_brk hc⟩)
   refine SB.of_rst hrst h.len hk.sec (fun y hy => ?_) (by simp) (fun s hs => Nat.le_trans (h.tg s hs) h.k) (fun y hy => ?_) hK (fun j cl => ?_)
   ·rw [List.mem_singleton] at hy; rw [hy]; exact ⟨by show (0 : Int) ≤ p; omega, by show (p : Int) < _; omega, entRec_sec _ hq⟩
   ·rw [List.mem_singleton] at hy; rw [hy]; show tagS (entRec _ _) ≤ _; rw [tag_ent _ hq hg4]; exact hgk
   ·rw [hh]
    have hnear : Near d.sec [((p : Int), entRec L.gen q)] (crashL d.sec (([((p : Int), entRec L.gen q)]).take j) cl) := by
     refine (near_crash hk.sec (fun y hy => ?_) ?_ (fun s hs => by have := h.tg s hs; have := h.k; omega) (fun y hy => ?_) cl).mono (fun y hy => List.mem_of_mem_take hy)
     ·have hy := List.mem_of_mem_take hy
      rw [List.mem_singleton] at hy; rw [hy]; exact ⟨by show (0 : Int) ≤ p; omega, by show (p : Int) < _; omega, entRec_sec _ hq⟩
     ·rw [List.map_take]; exact List.Nodup.sublist (List.take_sublist _ _) (by simp)
     ·have hy := List.mem_of_mem_take hy
      rw [List.mem_singleton] at hy; rw [hy]; show tagS (entRec _ _) < _; rw [tag_ent _ hq hg4]; omega
    generalize crashL d.sec _ cl = sec' at hnear
    have hoth : ∀ a, a < d.sec.length → a ≠ p → sec'.getD a [] = d.sec.getD a [] := fun a ha hne => (hnear.2 a ha).elim id (fun ⟨s, h1, _⟩ => by
     rw [List.mem_singleton] at h1
     injection h1 with h1 _
     omega)
    have hsame : tagS (sec'.getD p []) = tagS (d.sec.getD p []) ∨ sec'.getD p [] = entRec L.gen q := (hnear.2 p hpl).elim (fun e => .inl (by rw [e])) (fun ⟨s, h1, h2⟩ => by
     rw [List.mem_singleton] at h1
     injection h1 with _ h1
     subst h1
     exact h2.symm)
    rcases hsame with hsm | hsm
    ·refine .inl ⟨_, _, _, live_keep hlv hnear.1 (fun a h1 h2 => hoth a (by omega) (by omega)) (fun a h1 h2 => ?_) (by rw [hoth _ (by omega) (by omega)]), hP⟩
     by_cases ha : a = p
     ·rw [ha]; exact hsm
     ·rw [hoth a (by omega) ha]
    ·exact .inl ⟨_, _, _, live_add hlv hq hrt (by omega) hnear.1 (by rw [← hp]; exact hsm) (fun a h1 h2 => hoth a h1 (by omega)), hP2⟩
  | none =>
   obtain ⟨_, k2, k3⟩ := wsA_none hw
   rw [h.opn, List.nil_append] at k3
   have hset : (wsD d (p : Int) (entRec L.gen q)).sec = d.sec.set p (entRec L.gen q) := k3
   refine .inl ⟨rfl, ⟨h.brk, k2, by rw [hset, List.length_set]; exact h.len, ?_, by show L.cnt + 1 = _; rw [h.cnt]; simp, hP2, fun s hs => ?_, h.k⟩, rfl⟩
   ·rw [hh]
    show Live _ hf L.side L.gen _
    refine live_add hlv hq hrt (by omega) (by rw [hset, List.length_set]) ?_ (fun a h1 h2 => ?_)
    ·rw [hset, getD_set _ _ _ _ hpl, if_pos hp.symm]
    ·rw [hset, getD_set _ _ _ _ hpl, if_neg (by omega)]
   ·show tagS s ≤ max L.last L.gen
    rw [hset] at hs
    rcases List.mem_or_eq_of_mem_set hs with h1 | h1
    ·exact h.tg s h1
    ·rw [h1, tag_ent _ hq hg4]; omega
theorem fill_vals (d : DiskD) (f z : Int) (g : Nat) (l : List Ent2) : (room z < l.length ∧ fillR d f z g l = (some (13, none), d)) ∨ (¬ room z < l.length ∧ fillR d f z g l = (some (15, none), d)) ∨ (¬ room z < l.length ∧ (∀ q ∈ l, rightE q = true) ∧ fillR d f z g l = fillW d (f + 1) (l.map (entRec g))) := by
 unfold fillR
 by_cases h2 : room z < l.length
 ·rw [if_pos h2]; exact .inl ⟨h2, rfl⟩
 ·rw [if_neg h2]
  by_cases h3 : l.all rightE = true
  ·rw [if_pos h3]; exact .inr (.inr ⟨h2, List.all_eq_true.1 h3, rfl⟩)
  ·rw [if_neg h3]; exact .inr (.inl ⟨h2, rfl⟩)
theorem rewR_vals {d : DiskD} {h : Nat} {L : LogD} {qs : List Ent2} (hb : L.brk = false) (hg : max L.last L.gen < 4294967295) : rewR d h L qs = rewS d h L qs (max L.last L.gen + 1) := by
 unfold rewR
 rw [if_neg (by rw [hb]; simp), if_neg (by omega)]
theorem mem_setAll {sec : List (List Int)} {b : Nat} {L : List (List Int)} (hb : b + L.length ≤ sec.length) : ∀ s ∈ setAll sec (wrs (b : Int) L), s ∈ sec ∨ s ∈ L := by
 intro s hs
 obtain ⟨a, ha, rfl⟩ := mem_getD hs
 rw [setAll_length] at ha
 rw [getD_run hb]
 split
 ·exact .inr (getD_mem (by omega))
 ·exact .inl (getD_mem ha)
theorem rew_done {d : DiskD} {h : Nat} {L : LogD} {qs : List Ent2} (hb : L.brk = false) (ho : d.opn = []) (hh : h = d.sec.length / 2) (h1 : 1 ≤ h) (hs : L.side < 2) (tg : ∀ s ∈ d.sec, tagS s ≤ max L.last L.gen) (hm : max L.last L.gen < 4294967296) (hq : ∀ q ∈ qs, EntOk q) (hr : (rewR d h L qs).1 = none) :
  max L.last L.gen + 1 < 4294967296 ∧ (rewR d h L qs).2.2 = { L with side := 1 - L.side, gen := max L.last L.gen + 1, cnt := qs.length } ∧ (rewR d h L qs).2.1.opn = [] ∧ (rewR d h L qs).2.1.down = false ∧ (rewR d h L qs).2.1.sec.length = d.sec.length ∧
   Live (rewR d h L qs).2.1.sec h (1 - L.side) (max L.last L.gen + 1) qs ∧ ∀ s ∈ (rewR d h L qs).2.1.sec, tagS s ≤ max L.last L.gen + 1 := by
 have hg : max L.last L.gen < 4294967295 := by
  rcases Nat.lt_or_ge (max L.last L.gen) 4294967295 with h | h
  ·exact h
  ·unfold rewR at hr
   rw [hb, if_neg (by simp), if_pos (by omega)] at hr
   cases hr
 rw [rewR_vals hb hg] at hr ⊢
 obtain ⟨g, hgg⟩ : ∃ g, g = max L.last L.gen + 1 := ⟨_, rfl⟩
 rw [← hgg] at hr ⊢
 obtain ⟨o, hoo⟩ : ∃ o, o = 1 - L.side := ⟨_, rfl⟩
 have hsd := sides (h := h) (s := o) (by omega)
 have hos : 1 - o = L.side := by omega
 rw [hos] at hsd
 obtain ⟨f, hf⟩ : ∃ f, f = sFrom h o := ⟨_, rfl⟩
 have hln : h + h ≤ d.sec.length := by omega
 unfold rewS at hr ⊢
 rw [← hoo, ← hf] at hr ⊢
 rcases fill_vals d (f : Int) h g qs with ⟨_, e⟩ | ⟨_, e⟩ | ⟨hrm, hrt, e⟩
 ·rw [e] at hr; cases hr
 ·rw [e] at hr; cases hr
 ·rw [room_half h1] at hrm
  rw [e] at hr ⊢
  cases hfw : fillW d ((f : Int) + 1) (qs.map (entRec g)) with
  | mk fa fd =>
   rw [hfw] at hr
   cases fa with
   | some x => cases hr
   | none =>
    simp only at hr ⊢
    unfold rewW at hr ⊢
    simp only at hr ⊢
    cases hw : wsA fd (f : Int) (rec g toll) with
    | some x => rw [hw] at hr; cases hr
    | none =>
     simp only
     obtain ⟨_, f2, f3⟩ := fillW_none _ _ _ _ hfw
     obtain ⟨c1, c2, c3⟩ := wsA_none hw
     rw [f2, List.nil_append] at c3
     rw [ho, List.nil_append] at f3
     have hfi : (f : Int) + 1 = ((f + 1 : Nat) : Int) := by omega
     rw [hfi] at f3
     have hlr : f + 1 + (qs.map (entRec g)).length ≤ d.sec.length := by rw [List.length_map]; omega
     have hfl : fd.sec.length = d.sec.length := by rw [f3, setAll_length]
     have hset : (wsD fd (f : Int) (rec g toll)).sec = fd.sec.set f (rec g toll) := c3
     have hflt : f < fd.sec.length := by omega
     have hgd : ∀ a, (wsD fd (f : Int) (rec g toll)).sec.getD a [] = if a = f then rec g toll else if f + 1 ≤ a ∧ a < f + 1 + qs.length then (qs.map (entRec g)).getD (a - (f + 1)) [] else d.sec.getD a [] := fun a => by
      rw [hset, getD_set _ _ _ _ hflt, f3, getD_run hlr, List.length_map]
     have hg4 : g < 4294967296 := by omega
     have htag : ∀ a, a < d.sec.length → tagS (d.sec.getD a []) < g := fun a ha => by have := tg _ (getD_mem ha); omega
     refine ⟨hg4, trivial, c2, c1, by rw [hset, List.length_set, hfl], ⟨by omega, by rw [hset, List.length_set, hfl]; exact hln, by omega, hg4, ?_, ?_, fun q hm => ⟨hq q hm, hrt q hm⟩, ?_, ?_⟩, ?_⟩
     ·rw [hgd, if_pos hf.symm]
     ·intro i hi
      rw [hgd, if_neg (by omega), if_pos (by omega), List.getD_eq_getElem?_getD, show sFrom h o + 1 + i - (f + 1) = i by omega]
      simp [hi]
     ·intro i hi hh2
      rw [hgd, if_neg (by omega), if_neg (by omega)]
      have := htag (sFrom h o + 1 + i) (by omega)
      omega
     ·rw [hos, hgd, if_neg (by omega), if_neg (by omega)]
      exact htag _ (by omega)
     ·intro s hsm
      rw [hset] at hsm
      rcases List.mem_or_eq_of_mem_set hsm with h2 | h2
      ·rw [f3] at h2
       rcases mem_setAll hlr s h2 with h3 | h3
       ·have := tg s h3; omega
       ·rw [List.mem_map] at h3
        obtain ⟨q, hqm, rfl⟩ := h3
        rw [tag_ent g (hq q hqm) hg4]
        exact Nat.le_refl _
      ·rw [h2, tag_head g hg4]
       exact Nat.le_refl _
theorem part1_zero : part1 0 = zsec := by unfold part1; simp
theorem tag_zsec : tagS zsec = 0 := by rw [← part1_zero]; exact (part1_none (by omega)).2
theorem Fresh.tag {sec : List (List Int)} {h : Nat} (f : Fresh sec h) : ∀ s ∈ sec, tagS s ≤ 0 := by
 intro s hs
 obtain ⟨a, ha, rfl⟩ := mem_getD hs
 obtain ⟨c, hc, he⟩ := f.ex
 match a with
 | 0 => rw [he, (part1_none hc).2]; exact Nat.le_refl _
 | a + 1 => rw [f.zs _ (by omega) ha, tag_zsec]; exact Nat.le_refl _
theorem Fresh.scan {sec : List (List Int)} {h : Nat} (f : Fresh sec h) (s : Nat) (hs : s < 2) : (scanL (none, []) ((sec.drop (sFrom h s)).take h)).1 = none := by
 cases hg : (scanL (none, []) ((sec.drop (sFrom h s)).take h)).1 with
 | none => rfl
 | some g =>
  obtain ⟨x, hx, hp⟩ := scan_gen hg
  have h1 := f.h1
  have hln := f.ln
  have hsd := sides (h := h) hs
  have hx2 : x = sec.getD (sFrom h s) [] := by
   have := drop_getD sec (sFrom h s) h 0 (by omega) (by omega)
   rw [Nat.add_zero] at this
   rw [← this, List.getD_eq_getElem?_getD, ← List.head?_eq_getElem?, hx]
   rfl
  rcases hsd with ⟨e, _⟩ | ⟨e, _⟩
  ·obtain ⟨c, hc, he⟩ := f.ex
   rw [e, he] at hx2
   rw [hx2, (part1_none hc).1] at hp
   cases hp
  ·rw [e, f.zs h (by omega) (by omega)] at hx2
   rw [hx2, prsH_zsec] at hp
   cases hp
theorem openF_none {d : DiskD} (h : ∀ s, s < 2 → (scanL (none, []) ((d.sec.drop (sFrom (d.sec.length / 2) s)).take (d.sec.length / 2))).1 = none) : (openF d).1 = none := by
 unfold openF
 generalize d.sec.length / 2 = f at *
 show (fNext 1 (slotS d (sFrom f 1) f) (fNext 0 (slotS d (sFrom f 0) f) (none, _))).1 = none
 rw [fNext_none (k := 0) (S := slotS d (sFrom f 0) f) (h 0 (by omega)), fNext_none (k := 1) (S := slotS d (sFrom f 1) f) (h 1 (by omega))]
theorem live_first {sec sec' : List (List Int)} {h : Nat} (f : Fresh sec h) (hl : sec'.length = sec.length) (h0 : sec'.getD 0 [] = rec 1 toll) (ho : ∀ a, 0 < a → a < sec.length → sec'.getD a [] = sec.getD a []) : Live sec' h 0 1 [] := by
 have h1 := f.h1
 have hln := f.ln
 refine ⟨by omega, by rw [hl]; exact hln, by simp; omega, by omega, h0, (fun i hi => by simp at hi), (fun q hq => by cases hq), ?_, ?_⟩
 ·intro i _ hh
  show tagS (sec'.getD (0 + 1 + i) []) ≠ 1
  rw [ho _ (by omega) (by omega), f.zs _ (by omega) (by omega), tag_zsec]
  omega
 ·show tagS (sec'.getD h []) < 1
  rw [ho _ (by omega) (by omega), f.zs _ (by omega) (by omega), tag_zsec]
  omega
theorem openS_some {d : DiskD} {es : List Ent2} {L : LogD} (h : openF d = (some es, L)) : openS d = (none, d, some (L, es)) := by
 unfold openS
 rw [h]
theorem fresh_new (n : Nat) (hn : 2 ≤ n) : Fresh (List.replicate n zsec) (n / 2) := by
 refine ⟨by omega, by rw [List.length_replicate]; omega, ⟨0, by omega, ?_⟩, fun a _ ha => ?_⟩
 ·rw [part1_zero]
  rw [List.getD_eq_getElem?_getD, List.getElem?_replicate, if_pos (by omega)]
  rfl
 ·rw [List.length_replicate] at ha
  rw [List.getD_eq_getElem?_getD, List.getElem?_replicate, if_pos ha]
  rfl
end Go.Proofs.YtillkpjflcgkeaaGreat
namespace Go.Proofs.YtillkpjflcgkeaaGreat
open Go.RowKit
theorem mapM_of {α β : Type} {f : α → Option β} {g : α → β} : ∀ {L : List α}, (∀ x ∈ L, f x = some (g x)) → L.mapM f = some (L.map g)
 | [], _ => rfl
 | x :: L, h => by
  rw [List.mapM_cons, h x (by simp), mapM_of (fun y hy => h y (by simp [hy]))]
  rfl
theorem lits_u8 (D : Nat) (n : Int) (h : 0 ≤ n ∧ n ≤ 255) : Tryz.prog.keyLits (D + 1) 5 [.int .u8 n] = some [.int .u8 n] := by
 unfold Program.keyLits
 rw [Tryz.underlying5]
 have : (Lit.int .u8 n).wf = true := by simp [Lit.wf, IntKind.min, IntKind.max, IntKind.signed, IntKind.bits]; omega
 simp [this]
theorem lits_dig (D : Nat) {d : List Int} (h : DigOk d) : Tryz.prog.keyLits (D + 2) 41 (u8s d) = some (d.map (Lit.int .u8)) := by
 have hc : Tryz.prog.cellsOf 41 = 32 := by kernel_rfl
 have hc1 : Tryz.prog.cellsOf 5 = 1 := by kernel_rfl
 have hl : (u8s d).length = 32 := by simp [u8s, h.len]
 unfold Program.keyLits
 rw [Tryz.underlying41]
 simp only [hc, hl, hc1, if_true, Nat.mul_one]
 rw [mapM_of (g := fun i => [Lit.int .u8 (d.getD i 0)]) (fun i hi => ?_)]
 ·simp only [Option.map_some, Option.some.injEq]
  have hfl : ((List.range 32).map fun i => [Lit.int .u8 (d.getD i 0)]).flatten = (List.range 32).map fun i => Lit.int .u8 (d.getD i 0) := by
   rw [← List.flatMap_def, ← List.map_eq_flatMap]
  rw [hfl]
  apply List.ext_getElem
  ·simp [h.len]
  ·intro i h1 h2
   have hi : i < 32 := by simpa [h.len] using h2
   simp [show i < d.length by rw [h.len]; exact hi]
 ·have hi : i < 32 := by simpa using hi
  have hlt : i < d.length := by rw [h.len]; exact hi
  have e : ((u8s d).drop i).take 1 = [.int .u8 (d.getD i 0)] := by
   have hlt' : i < (u8s d).length := by rw [hl]; exact hi
   rw [List.drop_eq_getElem_cons hlt']
   simp [u8s, hlt]
  rw [e]
  exact lits_u8 D _ (h.byte _ (by simp [hlt]))
theorem lits_ent {p : List Int × Int} (hp : EntOk p) : Tryz.prog.keyLits 3 43 (entP p) = some (p.1.map (Lit.int .u8) ++ [Lit.int .i64 p.2]) := by
 have hc : Tryz.prog.cellsOf 43 = 33 := by kernel_rfl
 have hc1 : Tryz.prog.cellsOf 41 = 32 := by kernel_rfl
 have hc2 : Tryz.prog.cellsOf 2 = 1 := by kernel_rfl
 have hl := entP_length p hp
 have h32 : (u8s p.1).length = 32 := by simp [u8s, hp.dig.len]
 have e1 : (entP p).take 32 = u8s p.1 := by unfold entP entC; rw [List.take_append_of_le_length (by omega), List.take_of_length_le (by omega)]
 have e2 : ((entP p).drop 32).take 1 = [.int .i64 p.2] := by unfold entP entC; rw [List.drop_append_of_le_length (by omega), List.drop_of_length_le (by omega)]; rfl
 have k2 : Tryz.prog.keyLits 2 2 [.int .i64 p.2] = some [Lit.int .i64 p.2] := by
  unfold Program.keyLits
  rw [Tryz.underlying2]
  simp [wf_i64 hp.exp]
 unfold Program.keyLits
 rw [Tryz.underlying43]
 simp [hc, hl, hc1, hc2, e1, e2, lits_dig 0 hp.dig, k2]
theorem lits_inj {p q : List Int × Int} (h : p.1.map (Lit.int .u8) ++ [Lit.int .i64 p.2] = q.1.map (Lit.int .u8) ++ [Lit.int .i64 q.2]) : p = q := by
 have h1 := List.append_inj' h rfl
 have h2 : p.1 = q.1 := by
  have key : ∀ a b : List Int, a.map (Lit.int .u8) = b.map (Lit.int .u8) → a = b := by
   intro a
   induction a with
   | nil => intro b hb; cases b with
    | nil => rfl
    | cons => simp at hb
   | cons x a ih => intro b hb; cases b with
    | nil => simp at hb
    | cons y b =>
     simp only [List.map_cons, List.cons.injEq, Lit.int.injEq, true_and] at hb
     rw [hb.1, ih b hb.2]
  exact key _ _ h1.1
 have h3 : p.2 = q.2 := by simpa using h1.2
 exact Prod.ext h2 h3
theorem run_eqE {p q : List Int × Int} (hp : EntOk p) (hq : EntOk q) (w : World) : (Op.equalIn 10000 43 (.agg (entP p).toArray) (.agg (entP q).toArray)).run Tryz.prog w = .ok (decide (p = q)) w := by
 have hu := Tryz.underlying43
 have hc : Tryz.prog.cellsOf 43 = 33 := by kernel_rfl
 have form : ∀ x : List Int × Int, EntOk x → Value.formed Tryz.prog 43 (.agg (entP x).toArray) = true := fun x hx => by
  unfold Value.formed
  rw [hu]
  simp [hc, entP_length x hx]
 have cells : ∀ x : List Int × Int, (Value.agg (entP x).toArray).cells.toList = entP x := fun x => by
  show (entP x).toArray.toList = _
  simp
 obtain ⟨r, hr, hiff⟩ := run_equalIn_deep (P := Tryz.prog) 9997 3 43 (by kernel_rfl) w 3 3 (.agg (entP p).toArray) (.agg (entP q).toArray) _ _ (form p hp) (form q hq) (by rw [cells]; exact lits_ent hp) (by rw [cells]; exact lits_ent hq)
 rw [hr]
 congr 1
 by_cases h : p = q
 ·subst h
  simpa using hiff.2 rfl
 ·have : ¬ r = true := fun e => h (lits_inj (hiff.1 e))
  simpa [h] using this
set_option maxHeartbeats 2000000 in
theorem same_any (va vb : Value) (l m : List (List Int × Int)) (w : World) (hs : Sn w 33 va l.length (l.flatMap entP)) (hok : ∀ p ∈ l, EntOk p) (hs' : Sn w 33 vb m.length (m.flatMap entP)) (hok' : ∀ p ∈ m, EntOk p) (hl : l.length ≤ 1000) (hm : m.length ≤ 1000) :
  Calls Tryz.prog 16 #[va, vb] w fun e w' => e = .returned (.bool (decide (l = m))) ∧ Below w.heap.size w w' := by
 obtain ⟨A, cap, rfl, hcap, _, _⟩ := id hs
 obtain ⟨A', cap', rfl, hcap', _, _⟩ := id hs'
 have HS := Lib.hid hs
 have HOK := Lib.hid hok
 have HS' := Lib.hid hs'
 have HOK' := Lib.hid hok'
 clear hs hok hs' hok'
 rcases Bool.eq_false_or_eq_true ((l.length : Int) != m.length) with d1 | d1
 ·go_enter Tryz.func16, Tryz.ntmps16
  go_wp2_with fail
  go_ret
  have hne : l ≠ m := fun e => by subst e; simp at d1
  exact ⟨by simp [hne], Below.refl _ _⟩
 ·have hlm : l.length = m.length := by simp at d1; omega
  have HLM := Lib.hid hlm
  clear hlm
  go_enter Tryz.func16, Tryz.ntmps16
  go_wp2_with fail
  go_loopw [5] (fun i wr => ∃ k : Nat, k ≤ l.length ∧ i = .int .i64 k ∧ Hid (l.take k = m.take k) ∧ Below w.heap.size w wr) (fun i _ => l.length - (intOf i).toNat)
  case atStart => exact ⟨0, Nat.zero_le _, rfl, Lib.hid rfl, Below.refl _ _⟩
  case round =>
   obtain ⟨k, hk, rfl, heqk, hb⟩ := hrel
   by_cases hlt : k < l.length
   ·have hlt' : k < m.length := by rw [← HLM.out]; exact hlt
    obtain ⟨b, off, rfl, hr⟩ := at_elem entP EntOk 33 entP_length (HS.out.below hb) HOK.out k hlt
    obtain ⟨b', off', rfl, hr'⟩ := at_elem entP EntOk 33 entP_length (HS'.out.below hb) HOK'.out k hlt'
    have hr : wr.rangeAt b (off + k * 33) (entP l[k]) := hr
    have hr' : wr.rangeAt b' (off' + k * 33) (entP m[k]) := hr'
    have la := entP_length l[k] (HOK.out _ (List.getElem_mem hlt))
    have lb := entP_length m[k] (HOK'.out _ (List.getElem_mem hlt'))
    have heq := run_eqE (HOK.out l[k] (List.getElem_mem hlt)) (HOK'.out m[k] (List.getElem_mem hlt'))
    have hud := Tryz.underlying43
    have hua : (Tryz.prog.info? 43).map (·.size) = some (entP l[k]).length := by rw [la]; kernel_rfl
    have hub : (Tryz.prog.info? 43).map (·.size) = some (entP m[k]).length := by rw [lb]; kernel_rfl
    have hi0 : (0 : Int) ≤ k := by omega
    have hi1 : (k : Int) < l.length := by omega
    have hi2 : (k : Int) < m.length := by omega
    go_wp2_with fail
    rcases Bool.eq_false_or_eq_true (decide (l[k] = m[k])) with t1 | t1
    all_goals
     rw [t1] at heq
     refine wp_region_quiet_lit (by kernel_rfl) (by kernel_rfl) ?_
     repeat (first
      | (refine qLoad 43 (.tmp 19) rfl rfl rfl hr hud rfl hua ?_; simp only [j1, j2, j3, j4, j5])
      | (refine qLoad 43 (.tmp 23) rfl rfl rfl hr' hud rfl hub ?_; simp only [j1, j2, j3, j4, j5])
      | quiet_step (fail))
     refine wpQuiet_nil ?_
     intro w2 hw2
     obtain ⟨nq, hw3⟩ := hw2
     subst hw3
    ·go_wp2_with fail
     refine ⟨⟨k + 1, by omega, by go_num, Lib.hid ?_, bdrewN hb _⟩, by simp [intOf]; omega⟩
     rw [List.take_succ_eq_append_getElem hlt, List.take_succ_eq_append_getElem hlt', heqk.out, of_decide_eq_true t1]
    ·go_wp2_with fail
     go_ret
     have hne : l ≠ m := fun e => of_decide_eq_false t1 (by subst e; rfl)
     exact ⟨by simp [hne], bdrewN hb _⟩
   ·obtain rfl : k = l.length := by omega
    have hall : l = m := by
     have h := heqk.out
     rw [List.take_length, HLM.out, List.take_length] at h
     exact h
    go_wp2_with fail
    go_ret
    exact ⟨by simp [hall], hb⟩
end Go.Proofs.YtillkpjflcgkeaaGreat
