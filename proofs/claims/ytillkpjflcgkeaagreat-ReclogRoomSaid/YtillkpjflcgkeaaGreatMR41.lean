import Derived.Test.YtillkpjflcgkeaaGreatMR38
import Derived.Test.YtillkpjflcgkeaaGreatMR36
import Derived.Test.YtillkpjflcgkeaaGreatMR29
import Derived.Test.YtillkpjflcgkeaaGreatMR39
import Derived.Test.YtillkpjflcgkeaaGreatMR35
set_option linter.unusedSimpArgs false
set_option maxRecDepth 100000
namespace Go.Proofs.YtillkpjflcgkeaaGreat
open Go.RowKit
attribute [local irreducible] wpQuiet wpAnyH
def PG (G : Nat) : Nat → List Ent2 → Prop := fun g _ => G ≤ g
def RSt (N k G : Nat) (d : DiskD) (lg : Option LogD) : Prop :=
 (N < 2 ∧ lg = none ∧ d.sec.length = N) ∨ (2 ≤ N ∧ ((lg = none ∧ SB (PG G) N k d) ∨ ∃ L, lg = some L ∧ G ≤ L.gen ∧ L.cnt + 1 ≤ N / 2 ∧ ((L.brk = true ∧ SB (PG L.gen) N k d) ∨ ∃ es, SA (PG L.gen) N k d L es)))
theorem RSt.more {N k G : Nat} {d : DiskD} {lg : Option LogD} (h : RSt N k G d lg) : RSt N (k + 1) G d lg :=
 h.imp id (fun ⟨a, b⟩ => ⟨a, b.imp (fun ⟨c, e⟩ => ⟨c, e.imp (fun _ _ h => h) (by omega)⟩) (fun ⟨L, c, e, f, g⟩ => ⟨L, c, e, f, g.imp (fun ⟨x, y⟩ => ⟨x, y.imp (fun _ _ h => h) (by omega)⟩) (fun ⟨es, y⟩ => ⟨es, y.imp (fun h => h) (by omega)⟩)⟩)⟩)
theorem RSt.len {N k G : Nat} {d : DiskD} {lg : Option LogD} (h : RSt N k G d lg) : d.sec.length = N := by
 rcases h with ⟨_, _, h⟩ | ⟨_, ⟨_, h⟩ | ⟨L, _, _, _, ⟨_, h⟩ | ⟨es, h⟩⟩⟩
 ·exact h
 ·exact h.len
 ·exact h.len
 ·exact h.len
theorem RSt.disk {N k G : Nat} {d d' : DiskD} {lg : Option LogD} (h : RSt N k G d lg) (hl : d'.sec.length = d.sec.length) (h1 : ∀ P, SB P N k d → SB P N k d') (h2 : ∀ P L es, SA P N k d L es → SA P N k d' L es) : RSt N k G d' lg :=
 h.imp (fun ⟨a, b, c⟩ => ⟨a, b, hl.trans c⟩) (fun ⟨a, b⟩ => ⟨a, b.imp (fun ⟨c, e⟩ => ⟨c, h1 _ e⟩) (fun ⟨L, c, e, f, g⟩ => ⟨L, c, e, f, g.imp (fun ⟨x, y⟩ => ⟨x, h1 _ y⟩) (fun ⟨es, y⟩ => ⟨es, h2 _ _ _ y⟩)⟩)⟩)
theorem RSt.sb {N k G : Nat} {d : DiskD} {lg : Option LogD} (h : RSt N k G d lg) (hN : 2 ≤ N) : SB (PG G) N k d := by
 rcases h with ⟨h, _⟩ | ⟨_, ⟨_, h⟩ | ⟨L, _, hg, _, ⟨_, h⟩ | ⟨es, h⟩⟩⟩
 ·omega
 ·exact h
 ·exact h.imp (fun g _ h1 => Nat.le_trans hg h1) (Nat.le_refl _)
 ·exact h.sb.imp (fun g _ h1 => Nat.le_trans hg h1) (Nat.le_refl _)
theorem RSt.next {N k G : Nat} {d : DiskD} {L : LogD} (h : RSt N k G d (some L)) : G ≤ L.gen ∧ RSt N k L.gen d (some L) ∧ L.cnt ≤ N / 2 - 1 := by
 rcases h with ⟨_, h, _⟩ | ⟨hN, ⟨h, _⟩ | ⟨L', h, hg, hc, hs⟩⟩
 ·cases h
 ·cases h
 ·injection h with h
  subst h
  exact ⟨hg, .inr ⟨hN, .inr ⟨L, rfl, Nat.le_refl _, hc, hs⟩⟩, by omega⟩
theorem rs_open {N k G : Nat} {d : DiskD} {lg : Option LogD} (h : RSt N k G d lg) (hk : DOk d) (hK : k + 1 < 256) : RSt N (k + 1) G (openR d).2.1 ((openR d).2.2.map (·.1)) := by
 rcases Nat.lt_or_ge N 2 with hN | hN
 ·have hl := h.len
  have e : openR d = (some (15, none), d, none) := by unfold openR; rw [if_pos (by omega)]
  rw [e]
  exact .inl ⟨hN, rfl, hl⟩
 ·refine .inr ⟨hN, ?_⟩
  rcases sb_open (P := PG G) (fun h => Nat.le_trans h (by omega)) (h.sb hN) hk hN hK with ⟨x, h1, h2, h3⟩ | ⟨L, es, h1, h2, h3⟩
  ·rw [h2]
   exact .inl ⟨rfl, h3⟩
  ·rw [h2]
   have hp : G ≤ L.gen := h3.p
   have hf := h3.lv.fit
   have hc := h3.cnt
   exact .inr ⟨L, rfl, hp, by omega, .inr ⟨es, h3.imp (fun _ => Nat.le_refl _) (Nat.le_refl _)⟩⟩
theorem rs_app {N k G : Nat} {d : DiskD} {lg : Option LogD} {q : Ent2} (h : RSt N k G d lg) (hk : DOk d) (hK : k + 1 < 256) (hq : EntOk q) : RSt N k G (appO d lg q).1 (appO d lg q).2 := by
 have hl := h.len
 rcases h with ⟨h1, h2, h3⟩ | ⟨hN, ⟨h1, h2⟩ | ⟨L, h1, hg, hc, ⟨hb, hs⟩ | ⟨es, hs⟩⟩⟩
 ·subst h2; exact .inl ⟨h1, rfl, h3⟩
 ·subst h1; exact .inr ⟨hN, .inl ⟨rfl, h2⟩⟩
 ·subst h1
  have e2 : appD d (d.sec.length / 2) L q = d := by unfold appD; rw [if_pos hb]
  have e3 : appL d (d.sec.length / 2) L q = L := by unfold appL; rw [if_pos hb]
  show RSt N k G (appD d (d.sec.length / 2) L q) (some (appL d (d.sec.length / 2) L q))
  rw [e2, e3]
  exact .inr ⟨hN, .inr ⟨L, rfl, hg, hc, .inl ⟨hb, hs⟩⟩⟩
 ·subst h1
  show RSt N k G (appD d (d.sec.length / 2) L q) (some (appL d (d.sec.length / 2) L q))
  rw [hl]
  refine .inr ⟨hN, .inr ⟨_, rfl, ?_⟩⟩
  rcases sa_append (P' := PG L.gen) hs hk (by omega) hq (Nat.le_refl _) (Nat.le_refl _) with ⟨_, a2, a3⟩ | ⟨x, _, _, a3, a4⟩ | ⟨x, _, _, _, a4, a5⟩
  ·have hf := a2.lv.fit
   have hcn := a2.cnt
   exact ⟨by rw [a3]; exact hg, by omega, .inr ⟨_, by rw [a3]; exact a2⟩⟩
  ·rw [a4]
   exact ⟨hg, hc, .inl ⟨rfl, a3⟩⟩
  ·rw [a4, a5]
   exact ⟨hg, hc, .inr ⟨es, hs⟩⟩
theorem rs_rew {N k G : Nat} {d : DiskD} {lg : Option LogD} {qs : List Ent2} (h : RSt N k G d lg) (hk : DOk d) (hK : k + 1 < 256) (hq : ∀ q ∈ qs, EntOk q) : RSt N (k + 1) G (rewO d lg qs).1 (rewO d lg qs).2 := by
 have hl := h.len
 rcases h with ⟨h1, h2, h3⟩ | ⟨hN, ⟨h1, h2⟩ | ⟨L, h1, hg, hc, ⟨hb, hs⟩ | ⟨es, hs⟩⟩⟩
 ·subst h2; exact .inl ⟨h1, rfl, h3⟩
 ·subst h1; exact .inr ⟨hN, .inl ⟨rfl, h2.imp (fun _ _ h => h) (by omega)⟩⟩
 ·subst h1
  have e2 : rewR d (d.sec.length / 2) L qs = (some (11, none), d, L) := by unfold rewR; rw [if_pos hb]
  show RSt N (k + 1) G (rewR d (d.sec.length / 2) L qs).2.1 (some (rewR d (d.sec.length / 2) L qs).2.2)
  rw [e2]
  exact .inr ⟨hN, .inr ⟨L, rfl, hg, hc, .inl ⟨hb, hs.imp (fun _ _ h => h) (by omega)⟩⟩⟩
 ·subst h1
  show RSt N (k + 1) G (rewR d (d.sec.length / 2) L qs).2.1 (some (rewR d (d.sec.length / 2) L qs).2.2)
  rw [hl]
  refine .inr ⟨hN, .inr ⟨_, rfl, ?_⟩⟩
  rcases sa_rewrite (P' := PG L.gen) hs hk hK hq (Nat.le_refl _) (fun g h => Nat.le_of_lt h) with ⟨_, a2, a3⟩ | ⟨x, _, _, a3, a4⟩ | ⟨x, _, _, _, a4, a5⟩
  ·have hf := a2.lv.fit
   have hcn := a2.cnt
   exact ⟨by omega, by omega, .inr ⟨_, a2.imp (fun _ => Nat.le_refl _) (Nat.le_refl _)⟩⟩
  ·rw [a4]
   exact ⟨hg, hc, .inl ⟨rfl, a3⟩⟩
  ·rw [a4, a5]
   exact ⟨hg, hc, .inr ⟨es, hs.imp (fun h => h) (by omega)⟩⟩
theorem DOk.start {d : DiskD} (h : DOk d) : DOk (startD d) := ⟨h.sec, h.opn, h.few, h.lo, h.st, h.rm, h.cl⟩
theorem SB.pF19 {P : Nat → List Ent2 → Prop} {N K : Nat} {d : DiskD} (h : SB P N K d) (n : Int) : SB P N K (planF d n) := by
 unfold planF
 split
 ·exact h
 ·exact h.disk rfl rfl
theorem SA.pF19 {P : Nat → List Ent2 → Prop} {N K : Nat} {d : DiskD} {L : LogD} {es : List Ent2} (h : SA P N K d L es) (n : Int) : SA P N K (planF d n) L es := by
 unfold planF
 split
 ·exact h
 ·exact h.disk rfl rfl
theorem SB.pC19 {P : Nat → List Ent2 → Prop} {N K : Nat} {d : DiskD} (h : SB P N K d) (n : Int) (cl : List Int) : SB P N K (planC d n cl) := by
 unfold planC
 split
 ·exact h
 ·exact h.disk rfl rfl
theorem SA.pC19 {P : Nat → List Ent2 → Prop} {N K : Nat} {d : DiskD} {L : LogD} {es : List Ent2} (h : SA P N K d L es) (n : Int) (cl : List Int) : SA P N K (planC d n cl) L es := by
 unfold planC
 split
 ·exact h
 ·exact h.disk rfl rfl
theorem rs_step {w : World} {N k G : Nat} {d : DiskD} {lg : Option LogD} {o : Op19} (h : RSt N k G d lg) (hk : DOk d) (hK : k + 1 < 256) (ho : Op19Ok w o) (h3 : o.kind ≠ 3) : RSt N (k + 1) G (opD19 d lg o).1 (opD19 d lg o).2 := by
 unfold opD19
 split
 ·exact (rs_app h hk hK ho.ent).more
 split
 ·exact rs_rew h hk hK ho.mok
 split
 ·exact rs_open h hk hK
 split
 ·exact (h.disk (by unfold planF; split <;> rfl) (fun _ h => h.pF19 _) (fun _ _ _ h => h.pF19 _)).more
 split
 ·exact (h.disk (by unfold planC; split <;> rfl) (fun _ h => h.pC19 _ _) (fun _ _ _ h => h.pC19 _ _)).more
 split
 ·exact (h.disk (crashL_len _ _ _) (fun _ h => h.crash hk (by omega) _) (fun _ _ _ h => h.crash _)).more
 ·exact rs_open (d := startD d) (lg := lg) (h.disk rfl (fun _ h => h.disk rfl rfl) (fun _ _ _ h => h.disk rfl rfl)) hk.start hK
section
variable {d : DiskD}
theorem appD_bd {d : DiskD} (h : d.steps ≤ d.room) (hh : Nat) (L : LogD) (q : Ent2) : (appD d hh L q).room ≤ d.room + 3 := by
 unfold appD
 split
 ·omega
 ·unfold putD
  split
  ·omega
  ·split
   ·omega
   ·split
    ·exact (wsD_bd h _ _).2.1
    ·omega
theorem rewR_bd {d : DiskD} (h : d.steps ≤ d.room) (hh : Nat) (L : LogD) (qs : List Ent2) : (rewR d hh L qs).2.1.room ≤ d.room + 2 * qs.length + 4 := by
 unfold rewR
 split
 ·show d.room ≤ _; omega
 ·split
  ·show d.room ≤ _; omega
  ·unfold rewS
   have h1 := fillR_bd h (sFrom hh (1 - L.side)) hh (max L.last L.gen + 1) qs
   have h2 := wsD_bd h1.1 (sFrom hh (1 - L.side)) (rec (max L.last L.gen + 1) toll)
   have h3 := h1.2.1
   have h4 := h2.2.1
   unfold rewW
   split
   ·show (fillR d (sFrom hh (1 - L.side)) hh (max L.last L.gen + 1) qs).2.room ≤ _; omega
   ·split
    ·show (wsD (fillR d (sFrom hh (1 - L.side)) hh (max L.last L.gen + 1) qs).2 _ _).room ≤ _; omega
    ·show (wsD (fillR d (sFrom hh (1 - L.side)) hh (max L.last L.gen + 1) qs).2 _ _).room ≤ _; omega
theorem openR_bd {d : DiskD} (h : d.steps ≤ d.room) : (openR d).2.1.room ≤ d.room + 4 := by
 have h1 := syncS_bd h
 have h2 := h1.2.1
 unfold openR
 split
 ·show d.room ≤ _; omega
 ·split
  ·show (syncS d).room ≤ _; omega
  ·unfold openS
   have h3 := wsD_bd h1.1 0 (rec (lastN (syncS d) (syncS d).sec.length + 1) toll)
   have h4 := h3.2.1
   split
   ·show (syncS d).room ≤ _; omega
   ·split
    ·show (syncS d).room ≤ _; omega
    ·split
     ·show (wsD (syncS d) 0 _).room ≤ _; omega
     ·show (wsD (syncS d) 0 _).room ≤ _; omega
end
theorem appD_len (d : DiskD) (h : Nat) (L : LogD) (q : Ent2) : (appD d h L q).sec.length = d.sec.length := by
 unfold appD
 split
 ·rfl
 ·exact putD_len _ _ _ _ _ _
theorem rewR_len (d : DiskD) (h : Nat) (L : LogD) (qs : List Ent2) : (rewR d h L qs).2.1.sec.length = d.sec.length := by
 unfold rewR
 split
 ·rfl
 ·split
  ·rfl
  ·unfold rewS rewW
   split
   ·exact fillR_len _ _ _ _ _
   ·split
    ·show (wsD _ _ _).sec.length = _
     rw [wsD_len, fillR_len]
    ·show (wsD _ _ _).sec.length = _
     rw [wsD_len, fillR_len]
theorem opD_bd {d : DiskD} {lg : Option LogD} {o : Op19} (h : d.steps ≤ d.room) (hm : o.more.length ≤ 20) : (opD19 d lg o).1.room ≤ d.room + 60 ∧ (opD19 d lg o).1.sec.length = d.sec.length := by
  have hz : d.room ≤ d.room + 60 ∧ d.sec.length = d.sec.length := ⟨by omega, rfl⟩
  unfold opD19
  split
  · cases lg with
    | none => exact hz
    | some L => exact ⟨by have := appD_bd h (d.sec.length / 2) L o.ent; show (appD _ _ _ _).room ≤ _; omega, appD_len _ _ _ _⟩
  split
  · cases lg with
    | none => exact hz
    | some L => exact ⟨by have := rewR_bd h (d.sec.length / 2) L o.more; show (rewR _ _ _ _).2.1.room ≤ _; omega, rewR_len _ _ _ _⟩
  split
  · exact ⟨by have := openR_bd h; show (openR d).2.1.room ≤ _; omega, openR_len d⟩
  split
  · exact ⟨by have := (writeD_bd h o.pos (recO o)).2.1; show (writeD _ _ _).room ≤ _; omega, writeD_len _ _ _⟩
  split
  · unfold planF
    split
    · exact hz
    · exact ⟨by show d.room + 1 ≤ d.room + 60; omega, rfl⟩
  split
  · unfold planC
    split
    · exact hz
    · exact ⟨by show d.room + 1 ≤ d.room + 60; omega, rfl⟩
  split
  · exact ⟨by show d.room ≤ d.room + 60; omega, crashL_len _ _ _⟩
  · exact ⟨by have h2 : (openR (startD d)).2.1.room ≤ d.room + 4 := openR_bd (d := startD d) h
              show (openR (startD d)).2.1.room ≤ _; omega, openR_len (startD d)⟩
theorem rput_b (r : RefD) (f z p : Int) (g : Nat) (q : Ent2) : Rb 3 r (rputD r f z p g q) ∧ (rputD r f z p g q).sec.length = r.sec.length := by
 have hz : Rb 3 r r ∧ r.sec.length = r.sec.length := ⟨(Rb.refl r).mono (by omega), rfl⟩
 unfold rputD
 split
 ·exact hz
 split
 ·exact hz
 split
 ·exact ⟨rws_b _ _ _, rwsD_len _ _ _⟩
 ·exact hz
theorem rrew_b (r : RefD) (L : RLog) (qs : List Ent2) : Rb (2 * qs.length + 4) r (rrewR r L qs).1 ∧ (rrewR r L qs).1.sec.length = r.sec.length := by
 have hz : Rb (2 * qs.length + 4) r r ∧ r.sec.length = r.sec.length := ⟨(Rb.refl r).mono (by omega), rfl⟩
 unfold rrewR
 split
 ·split
  ·exact hz
  ·split
   ·exact hz
   ·unfold rrewS rrewW
    have h1 := rfill_b r (((r.sec.length / 2 : Nat) : Int) * (1 - (L.side : Int))) (r.sec.length / 2 : Nat) (max L.last L.gen + 1) qs
    have h2 := rfillD_len r (((r.sec.length / 2 : Nat) : Int) * (1 - (L.side : Int))) (r.sec.length / 2 : Nat) (max L.last L.gen + 1) qs
    split
    ·have h3 := rws_b (rfillD r (((r.sec.length / 2 : Nat) : Int) * (1 - (L.side : Int))) (r.sec.length / 2 : Nat) (max L.last L.gen + 1) qs).1 (((r.sec.length / 2 : Nat) : Int) * (1 - (L.side : Int))) (rec (max L.last L.gen + 1) toll)
     split
     ·exact ⟨(h1.trans h3).mono (by omega), (rwsD_len _ _ _).trans h2⟩
     ·exact ⟨(h1.trans h3).mono (by omega), (rwsD_len _ _ _).trans h2⟩
    ·exact ⟨h1.mono (by omega), h2⟩
 ·exact hz
theorem ropenW_b (r : RefD) (x : SSt) (sd la : Nat) : Rb 3 r (ropenW r x sd la).1 ∧ (ropenW r x sd la).1.sec.length = r.sec.length := by
 have hz : Rb 3 r r ∧ r.sec.length = r.sec.length := ⟨(Rb.refl r).mono (by omega), rfl⟩
 unfold ropenW
 split
 ·exact hz
 split
 ·exact hz
 split
 ·exact ⟨rws_b _ _ _, rwsD_len _ _ _⟩
 ·exact ⟨rws_b _ _ _, rwsD_len _ _ _⟩
theorem ropen_b (r : RefD) : Rb 4 r (ropenR r).1 ∧ (ropenR r).1.sec.length = r.sec.length := by
 have hz : Rb 4 r r ∧ r.sec.length = r.sec.length := ⟨(Rb.refl r).mono (by omega), rfl⟩
 have hs : Rb 1 r (rsyncD r) := rsync_b r
 have hl := rsyncD_len r
 unfold ropenR
 split
 ·exact hz
 split
 ·unfold ropenS
  have h := ropenW_b (rsyncD r) (if rpick (rscan (rsyncD r) 0 (r.sec.length / 2)) (rscan (rsyncD r) (r.sec.length / 2 : Nat) (r.sec.length / 2)) then rscan (rsyncD r) (r.sec.length / 2 : Nat) (r.sec.length / 2) else rscan (rsyncD r) 0 (r.sec.length / 2)) (if rpick (rscan (rsyncD r) 0 (r.sec.length / 2)) (rscan (rsyncD r) (r.sec.length / 2 : Nat) (r.sec.length / 2)) then 1 else 0) (rlastN (rsyncD r) (rsyncD r).sec.length)
  exact ⟨(hs.trans h.1).mono (by omega), h.2.trans hl⟩
 ·exact ⟨hs.mono (by omega), hl⟩
theorem opR_b {r : RefD} {L : RLog} {o : Op19} {v : Value} (hm : o.more.length ≤ 20) : Rb 60 r (opR19 r L o v).1 ∧ (opR19 r L o v).1.sec.length = r.sec.length := by
 have hz : Rb 60 r r ∧ r.sec.length = r.sec.length := ⟨(Rb.refl r).mono (by omega), rfl⟩
 unfold opR19
 split
 ·show Rb 60 r (rappD r L o.ent) ∧ (rappD r L o.ent).sec.length = _
  unfold rappD
  split
  ·split
   ·exact hz
   ·have h := rput_b r (((r.sec.length / 2 : Nat) : Int) * (L.side : Int)) (r.sec.length / 2 : Nat) ((L.es.length + 1 : Nat) : Int) L.gen o.ent
    exact ⟨h.1.mono (by omega), h.2⟩
  ·exact hz
 split
 ·have h := rrew_b r L o.more
  exact ⟨h.1.mono (by omega), h.2⟩
 split
 ·have h := ropen_b r
  exact ⟨h.1.mono (by omega), h.2⟩
 split
 ·exact ⟨(rwrite_b _ _ _).mono (by omega), rwriteD_len _ _ _⟩
 split
 ·exact ⟨(rplan_b _ _ _ _ _).mono (by omega), by show (rplanD _ _ _ _ _).sec.length = _; unfold rplanD; split <;> rfl⟩
 split
 ·exact ⟨(rplan_b _ _ _ _ _).mono (by omega), by show (rplanD _ _ _ _ _).sec.length = _; unfold rplanD; split <;> rfl⟩
 split
 ·exact ⟨(rcrash_b _ _).mono (by omega), crashL_len _ _ _⟩
 ·have h := ropen_b (rupD r)
  exact ⟨⟨by have := h.1.1; show (ropenR (rupD r)).1.steps ≤ r.steps + (60 : Nat); have h2 : (rupD r).steps = r.steps := rfl; omega, by have := h.1.2.1; show (ropenR (rupD r)).1.opn.length ≤ r.opn.length + 60; have h2 : (rupD r).opn = r.opn := rfl; rw [h2] at this; omega, by have := h.1.2.2; show (ropenR (rupD r)).1.plan.length ≤ r.plan.length + 60; have h2 : (rupD r).plan = r.plan := rfl; rw [h2] at this; omega⟩, h.2⟩
end Go.Proofs.YtillkpjflcgkeaaGreat
