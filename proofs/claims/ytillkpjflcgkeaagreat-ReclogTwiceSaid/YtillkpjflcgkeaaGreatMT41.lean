import Derived.Test.YtillkpjflcgkeaaGreatMT38
import Derived.Test.YtillkpjflcgkeaaGreatMT36
import Derived.Test.YtillkpjflcgkeaaGreatMT29
import Derived.Test.YtillkpjflcgkeaaGreatMT39
import Derived.Test.YtillkpjflcgkeaaGreatMT35
import Derived.Test.YtillkpjflcgkeaaGreatMT40
set_option linter.unusedSimpArgs false
set_option maxRecDepth 100000
namespace Go.Proofs.YtillkpjflcgkeaaGreat
open Go.RowKit
attribute [local irreducible] wpQuiet wpAnyH
def PG (G : Nat) : Nat → List Ent2 → Prop := fun g _ => G ≤ g
def RSt (N k G : Nat) (d : DiskD) (lg : Option LogD) : Prop :=
 (N < 2 ∧ lg = none ∧ d.sec.length = N) ∨ (2 ≤ N ∧ ((lg = none ∧ SB (PG G) N k d) ∨ ∃ L, lg = some L ∧ G ≤ L.gen ∧ L.cnt + 1 ≤ N / 2 ∧ ((L.brk = true ∧ SB (PG L.gen) N k d) ∨ ∃ es, SA (PG L.gen) N k d L es)))
theorem RSt.more {N k G : Nat} {d : DiskD} {lg : Option LogD} (h : RSt N k G d lg) : RSt N (k + 1) G d lg :=
 h.imp id (fun ⟨a, b⟩ => ⟨a, b.imp (fun ⟨c, e⟩ => ⟨c, e.imp (fun _ _ h => h) (by omega)⟩) (fun ⟨L, c, e, f, g⟩ => ⟨L, c, e, f, g.imp (fun ⟨x, y⟩ => ⟨x, y.imp (fun _ _ h => h) (by omega)⟩) (fun ⟨es, y⟩ => ⟨es, y.imp (fun h => h) (by omega)⟩)⟩)⟩)
theorem RSt.len {N k G : Nat} {d : DiskD} {lg : Option LogD} (h : RSt N k G d lg) : d.sec.length = N := by
 rcases h with ⟨_, _, h⟩ | ⟨_, ⟨_, h⟩ | ⟨L, _, _, _, ⟨_, h⟩ | ⟨es, h⟩⟩⟩
 ·exact h
 ·exact h.len
 ·exact h.len
 ·exact h.len
theorem RSt.disk {N k G : Nat} {d d' : DiskD} {lg : Option LogD} (h : RSt N k G d lg) (hl : d'.sec.length = d.sec.length) (h1 : ∀ P, SB P N k d → SB P N k d') (h2 : ∀ P L es, SA P N k d L es → SA P N k d' L es) : RSt N k G d' lg :=
 h.imp (fun ⟨a, b, c⟩ => ⟨a, b, hl.trans c⟩) (fun ⟨a, b⟩ => ⟨a, b.imp (fun ⟨c, e⟩ => ⟨c, h1 _ e⟩) (fun ⟨L, c, e, f, g⟩ => ⟨L, c, e, f, g.imp (fun ⟨x, y⟩ => ⟨x, h1 _ y⟩) (fun ⟨es, y⟩ => ⟨es, h2 _ _ _ y⟩)⟩)⟩)
theorem RSt.next {N k G : Nat} {d : DiskD} {L : LogD} (h : RSt N k G d (some L)) : G ≤ L.gen ∧ RSt N k L.gen d (some L) ∧ L.cnt ≤ N / 2 - 1 := by
 rcases h with ⟨_, h, _⟩ | ⟨hN, ⟨h, _⟩ | ⟨L', h, hg, hc, hs⟩⟩
 ·cases h
 ·cases h
 ·injection h with h
  subst h
  exact ⟨hg, .inr ⟨hN, .inr ⟨L, rfl, Nat.le_refl _, hc, hs⟩⟩, by omega⟩
theorem DOk.start {d : DiskD} (h : DOk d) : DOk (startD d) := ⟨h.sec, h.opn, h.few, h.lo, h.st, h.rm, h.cl⟩
section
variable {d : DiskD}
theorem appD_bd {d : DiskD} (h : d.steps ≤ d.room) (hh : Nat) (L : LogD) (q : Ent2) : (appD d hh L q).room ≤ d.room + 3 := by
 unfold appD
 split
 ·omega
 ·unfold putD
  split
  ·omega
  ·split
   ·omega
   ·split
    ·exact (wsD_bd h _ _).2.1
    ·omega
theorem rewR_bd {d : DiskD} (h : d.steps ≤ d.room) (hh : Nat) (L : LogD) (qs : List Ent2) : (rewR d hh L qs).2.1.room ≤ d.room + 2 * qs.length + 4 := by
 unfold rewR
 split
 ·show d.room ≤ _; omega
 ·split
  ·show d.room ≤ _; omega
  ·unfold rewS
   have h1 := fillR_bd h (sFrom hh (1 - L.side)) hh (max L.last L.gen + 1) qs
   have h2 := wsD_bd h1.1 (sFrom hh (1 - L.side)) (rec (max L.last L.gen + 1) toll)
   have h3 := h1.2.1
   have h4 := h2.2.1
   unfold rewW
   split
   ·show (fillR d (sFrom hh (1 - L.side)) hh (max L.last L.gen + 1) qs).2.room ≤ _; omega
   ·split
    ·show (wsD (fillR d (sFrom hh (1 - L.side)) hh (max L.last L.gen + 1) qs).2 _ _).room ≤ _; omega
    ·show (wsD (fillR d (sFrom hh (1 - L.side)) hh (max L.last L.gen + 1) qs).2 _ _).room ≤ _; omega
theorem openR_bd {d : DiskD} (h : d.steps ≤ d.room) : (openR d).2.1.room ≤ d.room + 4 := by
 have h1 := syncS_bd h
 have h2 := h1.2.1
 unfold openR
 split
 ·show d.room ≤ _; omega
 ·split
  ·show (syncS d).room ≤ _; omega
  ·unfold openS
   have h3 := wsD_bd h1.1 0 (rec (lastN (syncS d) (syncS d).sec.length + 1) toll)
   have h4 := h3.2.1
   split
   ·show (syncS d).room ≤ _; omega
   ·split
    ·show (syncS d).room ≤ _; omega
    ·split
     ·show (wsD (syncS d) 0 _).room ≤ _; omega
     ·show (wsD (syncS d) 0 _).room ≤ _; omega
end
theorem appD_len (d : DiskD) (h : Nat) (L : LogD) (q : Ent2) : (appD d h L q).sec.length = d.sec.length := by
 unfold appD
 split
 ·rfl
 ·exact putD_len _ _ _ _ _ _
theorem rewR_len (d : DiskD) (h : Nat) (L : LogD) (qs : List Ent2) : (rewR d h L qs).2.1.sec.length = d.sec.length := by
 unfold rewR
 split
 ·rfl
 ·split
  ·rfl
  ·unfold rewS rewW
   split
   ·exact fillR_len _ _ _ _ _
   ·split
    ·show (wsD _ _ _).sec.length = _
     rw [wsD_len, fillR_len]
    ·show (wsD _ _ _).sec.length = _
     rw [wsD_len, fillR_len]
theorem opD_bd {d : DiskD} {lg : Option LogD} {o : Op19} (h : d.steps ≤ d.room) (hm : o.more.length ≤ 20) : (opD19 d lg o).1.room ≤ d.room + 60 ∧ (opD19 d lg o).1.sec.length = d.sec.length := by
  have hz : d.room ≤ d.room + 60 ∧ d.sec.length = d.sec.length := ⟨by omega, rfl⟩
  unfold opD19
  split
  · cases lg with
    | none => exact hz
    | some L => exact ⟨by have := appD_bd h (d.sec.length / 2) L o.ent; show (appD _ _ _ _).room ≤ _; omega, appD_len _ _ _ _⟩
  split
  · cases lg with
    | none => exact hz
    | some L => exact ⟨by have := rewR_bd h (d.sec.length / 2) L o.more; show (rewR _ _ _ _).2.1.room ≤ _; omega, rewR_len _ _ _ _⟩
  split
  · exact ⟨by have := openR_bd h; show (openR d).2.1.room ≤ _; omega, openR_len d⟩
  split
  · exact ⟨by have := (writeD_bd h o.pos (recO o)).2.1; show (writeD _ _ _).room ≤ _; omega, writeD_len _ _ _⟩
  split
  · unfold planF
    split
    · exact hz
    · exact ⟨by show d.room + 1 ≤ d.room + 60; omega, rfl⟩
  split
  · unfold planC
    split
    · exact hz
    · exact ⟨by show d.room + 1 ≤ d.room + 60; omega, rfl⟩
  split
  · exact ⟨by show d.room ≤ d.room + 60; omega, crashL_len _ _ _⟩
  · exact ⟨by have h2 : (openR (startD d)).2.1.room ≤ d.room + 4 := openR_bd (d := startD d) h
              show (openR (startD d)).2.1.room ≤ _; omega, openR_len (startD d)⟩
theorem rput_b (r : RefD) (f z p : Int) (g : Nat) (q : Ent2) : Rb 3 r (rputD r f z p g q) ∧ (rputD r f z p g q).sec.length = r.sec.length := by
 have hz : Rb 3 r r ∧ r.sec.length = r.sec.length := ⟨(Rb.refl r).mono (by omega), rfl⟩
 unfold rputD
 split
 ·exact hz
 split
 ·exact hz
 split
 ·exact ⟨rws_b _ _ _, rwsD_len _ _ _⟩
 ·exact hz
theorem rrew_b (r : RefD) (L : RLog) (qs : List Ent2) : Rb (2 * qs.length + 4) r (rrewR r L qs).1 ∧ (rrewR r L qs).1.sec.length = r.sec.length := by
 have hz : Rb (2 * qs.length + 4) r r ∧ r.sec.length = r.sec.length := ⟨(Rb.refl r).mono (by omega), rfl⟩
 unfold rrewR
 split
 ·split
  ·exact hz
  ·split
   ·exact hz
   ·unfold rrewS rrewW
    have h1 := rfill_b r (((r.sec.length / 2 : Nat) : Int) * (1 - (L.side : Int))) (r.sec.length / 2 : Nat) (max L.last L.gen + 1) qs
    have h2 := rfillD_len r (((r.sec.length / 2 : Nat) : Int) * (1 - (L.side : Int))) (r.sec.length / 2 : Nat) (max L.last L.gen + 1) qs
    split
    ·have h3 := rws_b (rfillD r (((r.sec.length / 2 : Nat) : Int) * (1 - (L.side : Int))) (r.sec.length / 2 : Nat) (max L.last L.gen + 1) qs).1 (((r.sec.length / 2 : Nat) : Int) * (1 - (L.side : Int))) (rec (max L.last L.gen + 1) toll)
     split
     ·exact ⟨(h1.trans h3).mono (by omega), (rwsD_len _ _ _).trans h2⟩
     ·exact ⟨(h1.trans h3).mono (by omega), (rwsD_len _ _ _).trans h2⟩
    ·exact ⟨h1.mono (by omega), h2⟩
 ·exact hz
theorem ropenW_b (r : RefD) (x : SSt) (sd la : Nat) : Rb 3 r (ropenW r x sd la).1 ∧ (ropenW r x sd la).1.sec.length = r.sec.length := by
 have hz : Rb 3 r r ∧ r.sec.length = r.sec.length := ⟨(Rb.refl r).mono (by omega), rfl⟩
 unfold ropenW
 split
 ·exact hz
 split
 ·exact hz
 split
 ·exact ⟨rws_b _ _ _, rwsD_len _ _ _⟩
 ·exact ⟨rws_b _ _ _, rwsD_len _ _ _⟩
theorem ropen_b (r : RefD) : Rb 4 r (ropenR r).1 ∧ (ropenR r).1.sec.length = r.sec.length := by
 have hz : Rb 4 r r ∧ r.sec.length = r.sec.length := ⟨(Rb.refl r).mono (by omega), rfl⟩
 have hs : Rb 1 r (rsyncD r) := rsync_b r
 have hl := rsyncD_len r
 unfold ropenR
 split
 ·exact hz
 split
 ·unfold ropenS
  have h := ropenW_b (rsyncD r) (if rpick (rscan (rsyncD r) 0 (r.sec.length / 2)) (rscan (rsyncD r) (r.sec.length / 2 : Nat) (r.sec.length / 2)) then rscan (rsyncD r) (r.sec.length / 2 : Nat) (r.sec.length / 2) else rscan (rsyncD r) 0 (r.sec.length / 2)) (if rpick (rscan (rsyncD r) 0 (r.sec.length / 2)) (rscan (rsyncD r) (r.sec.length / 2 : Nat) (r.sec.length / 2)) then 1 else 0) (rlastN (rsyncD r) (rsyncD r).sec.length)
  exact ⟨(hs.trans h.1).mono (by omega), h.2.trans hl⟩
 ·exact ⟨hs.mono (by omega), hl⟩
theorem opR_b {r : RefD} {L : RLog} {o : Op19} {v : Value} (hm : o.more.length ≤ 20) : Rb 60 r (opR19 r L o v).1 ∧ (opR19 r L o v).1.sec.length = r.sec.length := by
 have hz : Rb 60 r r ∧ r.sec.length = r.sec.length := ⟨(Rb.refl r).mono (by omega), rfl⟩
 unfold opR19
 split
 ·show Rb 60 r (rappD r L o.ent) ∧ (rappD r L o.ent).sec.length = _
  unfold rappD
  split
  ·split
   ·exact hz
   ·have h := rput_b r (((r.sec.length / 2 : Nat) : Int) * (L.side : Int)) (r.sec.length / 2 : Nat) ((L.es.length + 1 : Nat) : Int) L.gen o.ent
    exact ⟨h.1.mono (by omega), h.2⟩
  ·exact hz
 split
 ·have h := rrew_b r L o.more
  exact ⟨h.1.mono (by omega), h.2⟩
 split
 ·have h := ropen_b r
  exact ⟨h.1.mono (by omega), h.2⟩
 split
 ·exact ⟨(rwrite_b _ _ _).mono (by omega), rwriteD_len _ _ _⟩
 split
 ·exact ⟨(rplan_b _ _ _ _ _).mono (by omega), by show (rplanD _ _ _ _ _).sec.length = _; unfold rplanD; split <;> rfl⟩
 split
 ·exact ⟨(rplan_b _ _ _ _ _).mono (by omega), by show (rplanD _ _ _ _ _).sec.length = _; unfold rplanD; split <;> rfl⟩
 split
 ·exact ⟨(rcrash_b _ _).mono (by omega), crashL_len _ _ _⟩
 ·have h := ropen_b (rupD r)
  exact ⟨⟨by have := h.1.1; show (ropenR (rupD r)).1.steps ≤ r.steps + (60 : Nat); have h2 : (rupD r).steps = r.steps := rfl; omega, by have := h.1.2.1; show (ropenR (rupD r)).1.opn.length ≤ r.opn.length + 60; have h2 : (rupD r).opn = r.opn := rfl; rw [h2] at this; omega, by have := h.1.2.2; show (ropenR (rupD r)).1.plan.length ≤ r.plan.length + 60; have h2 : (rupD r).plan = r.plan := rfl; rw [h2] at this; omega⟩, h.2⟩
end Go.Proofs.YtillkpjflcgkeaaGreat
namespace Go.Proofs.YtillkpjflcgkeaaGreat
open Go.RowKit
attribute [local irreducible] wpQuiet wpAnyH
theorem builtPr (g : Nat) (m : RM) (r : RefD) : Tryz.prog.built 39 [(0, .pointer (some ⟨g, 0, none⟩)), (3, .agg (refC m r))] = some (prC g (.pointer none) (.slice none 0 0) m r (.slice none 0 0) rl0) := by
 unfold refC prC rl0
 kernel_rfl
theorem pb_new {w2 w3 w4 : World} {m : DiskM} {mr : RM} {N : Nat} (hst : St w2 w3 m (newD N)) (hb : Below w3.heap.size w3 w4) (hk : RK w4 mr (rnewD N)) (hf : ∀ b ∈ rowsOf mr (rnewD N), w3.heap.size ≤ b) : PB19 w2 w4 m (newD N) (.pointer none) (.slice none 0 0) none none mr (rnewD N) (.slice none 0 0) rl0 :=
 ⟨hst.keep hb, .inl ⟨rfl, rfl, rfl⟩, ⟨none, 0, 0, rfl⟩, hk, RLK.zero _, fun b hm => by
  have hb3 : w3.heap.size ≤ b := by
   rcases hm with hm | hm
   ·exact hf b hm
   ·cases hm
  exact ⟨Apart.fresh hst.dk hb3, fun e => by cases e⟩⟩
structure RX (w0 W : World) (gz N k : Nat) (m : DiskM) (d : DiskD) (lv ev : Value) (lo : Option Nat) (lg : Option LogD) (mr : RM) (r : RefD) (v : Value) (L : RLog) : Prop where
 pb : PB19 w0 W m d lv ev lo lg mr r v L
 b : Blk W gz 39 (prC m.g lv ev mr r v L)
 f : Free m lo mr r v gz
 h0 : w0.heap.size ≤ gz
 rm : d.room ≤ 60 * k
 rs : r.steps ≤ (60 * k : Nat)
 ro : r.opn.length ≤ 60 * k
 rp : r.plan.length ≤ 60 * k
 dl : d.sec.length = N
 rl : r.sec.length = N
section
variable {w0 W W' : World} {gz N k : Nat} {m m' : DiskM} {d : DiskD} {lv lv' ev ev' : Value} {lo lo' : Option Nat} {lg : Option LogD} {mr mr' : RM} {r : RefD} {v v' vp : Value} {L : RLog} {o : Op19}
theorem RX.keep (x : RX w0 W gz N k m d lv ev lo lg mr r v L) (hb : Below W.heap.size W W') : RX w0 W' gz N k m d lv ev lo lg mr r v L := ⟨x.pb.keep hb, x.b.keep hb, x.f, x.h0, x.rm, x.rs, x.ro, x.rp, x.dl, x.rl⟩
theorem RX.more (x : RX w0 W gz N k m d lv ev lo lg mr r v L) : RX w0 W gz N (k + 1) m d lv ev lo lg mr r v L := ⟨x.pb, x.b, x.f, x.h0, by have := x.rm; omega, by have := x.rs; omega, by have := x.ro; omega, by have := x.rp; omega, x.dl, x.rl⟩
theorem RX.step (x : RX w0 W gz N k m d lv ev lo lg mr r v L) (k' : XR19 w0 W W' m lo mr r v m' (opD19 d lg o).1 lv' ev' lo' (opD19 d lg o).2 mr' (opR19 r L o vp).1 v' (opR19 r L o vp).2) (hm : o.more.length ≤ 20) :
  RX w0 (W'.setCells gz 0 (prC m'.g lv' ev' mr' (opR19 r L o vp).1 v' (opR19 r L o vp).2).toList) gz N (k + 1) m' (opD19 d lg o).1 lv' ev' lo' (opD19 d lg o).2 mr' (opR19 r L o vp).1 v' (opR19 r L o vp).2 := by
 obtain ⟨gl, ht, hg⟩ := k'.lt
 have hf := x.f.xr x.b.lt k'
 have hB := x.f.blk x.b ht hg
 have h1 := opD_bd (lg := lg) (o := o) x.pb.st.dk.ok.st hm
 have h2 := opR_b (r := r) (L := L) (o := o) (v := vp) hm
 have hb := (setCells_below (b := gz) (Nat.le_refl gz) (prC m'.g lv' ev' mr' (opR19 r L o vp).1 v' (opR19 r L o vp).2).toList 0 W').1
 exact ⟨k'.pb.off hb (fun k hk => setCells_other hk _ _ _) hf x.h0, Blk.setAll _ hB rfl, hf, x.h0, by have := x.rm; omega, by have := x.rs; have := h2.1.1; omega, by have := x.ro; have := h2.1.2.1; omega, by have := x.rp; have := h2.1.2.2; omega, h1.2.trans x.dl, h2.2.trans x.rl⟩
end
def RR (w0 W : World) (gz N k G : Nat) : Prop := ∃ m d lv ev lo lg mr r v L, RX w0 W gz N k m d lv ev lo lg mr r v L ∧ RSt N k G d lg
theorem RR.more {w0 W : World} {gz N k G : Nat} (h : RR w0 W gz N k G) : RR w0 W gz N (k + 1) G := by
 obtain ⟨m, d, lv, ev, lo, lg, mr, r, v, L, h1, h2⟩ := h
 exact ⟨m, d, lv, ev, lo, lg, mr, r, v, L, h1.more, h2.more⟩
end Go.Proofs.YtillkpjflcgkeaaGreat
