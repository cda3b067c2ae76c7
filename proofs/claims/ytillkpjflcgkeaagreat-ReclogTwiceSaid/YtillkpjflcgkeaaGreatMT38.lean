import Derived.Test.YtillkpjflcgkeaaGreatMT35
import Derived.Test.YtillkpjflcgkeaaGreatMT34
import Derived.Test.YtillkpjflcgkeaaGreatMT37
import Derived.Test.YtillkpjflcgkeaaGreatMT36
import Derived.Test.YtillkpjflcgkeaaGreatMT5
import Derived.Test.YtillkpjflcgkeaaGreatMT12
set_option linter.unusedSimpArgs false
set_option maxRecDepth 100000
namespace Go.Proofs.YtillkpjflcgkeaaGreat
open Go.RowKit
attribute [local irreducible] wpQuiet wpAnyH
theorem codeN : isI64 (codeA none) := ⟨by decide, by decide⟩
theorem code64 (c : Int) (o : Option Int) (h : isI64 c) : isI64 (codeA (some (c, o))) := h
theorem writeA_code (d : DiskD) (a : Int) : isI64 (codeA (writeA d a)) := by
 unfold writeA
 split
 ·exact ⟨by decide, by decide⟩
 ·split
  ·exact ⟨by decide, by decide⟩
  ·split
   ·exact ⟨by decide, by decide⟩
   ·split
    ·exact ⟨by decide, by decide⟩
    ·exact code64 15 _ ⟨by decide, by decide⟩
theorem syncA_code (d : DiskD) : isI64 (codeA (syncA d)) := by
 unfold syncA
 split
 ·exact ⟨by decide, by decide⟩
 ·split
  ·exact ⟨by decide, by decide⟩
  ·split
   ·exact ⟨by decide, by decide⟩
   ·exact ⟨by decide, by decide⟩
theorem wsA_code (d : DiskD) (a : Int) (s : List Int) : isI64 (codeA (wsA d a s)) := by
 unfold wsA
 split
 ·rename_i x h
  rw [← h]; exact writeA_code d a
 ·exact syncA_code _
theorem putA_code (d : DiskD) (f z p : Int) (g : Nat) (q : Ent2) : isI64 (codeA (putA d f z p g q)) := by
 unfold putA
 split
 ·exact ⟨by decide, by decide⟩
 ·split
  ·exact ⟨by decide, by decide⟩
  ·split
   ·exact wsA_code _ _ _
   ·exact ⟨by decide, by decide⟩
theorem fillW_code : ∀ (L : List (List Int)) (d : DiskD) (a : Int), isI64 (codeA (fillW d a L).1)
 | [], d, a => syncA_code d
 | s :: L, d, a => by
  unfold fillW
  split
  ·rename_i x h
   show isI64 (codeA (some x))
   rw [← h]; exact writeA_code d a
  ·exact fillW_code L _ _
theorem fillR_code (d : DiskD) (f z : Int) (g : Nat) (l : List Ent2) : isI64 (codeA (fillR d f z g l).1) := by
 unfold fillR
 split
 ·exact code64 13 _ ⟨by decide, by decide⟩
 ·split
  ·exact fillW_code _ _ _
  ·exact code64 15 _ ⟨by decide, by decide⟩
theorem appA_code (d : DiskD) (h : Nat) (L : LogD) (q : Ent2) : isI64 (codeA (appA d h L q)) := by
 unfold appA
 split
 ·exact code64 11 _ ⟨by decide, by decide⟩
 ·exact putA_code _ _ _ _ _ _
theorem rewR_code (d : DiskD) (h : Nat) (L : LogD) (qs : List Ent2) : isI64 (codeA (rewR d h L qs).1) := by
 unfold rewR
 split
 ·exact code64 11 _ ⟨by decide, by decide⟩
 ·split
  ·exact code64 13 _ ⟨by decide, by decide⟩
  ·unfold rewS
   have h1 := fillR_code d (sFrom h (1 - L.side)) h (max L.last L.gen + 1) qs
   have h2 := wsA_code (fillR d (sFrom h (1 - L.side)) h (max L.last L.gen + 1) qs).2 (sFrom h (1 - L.side)) (rec (max L.last L.gen + 1) toll)
   unfold rewW
   split
   ·rename_i x hx
    rw [hx] at h1
    exact h1
   ·split
    ·rename_i x hx
     rw [hx] at h2
     exact h2
    ·exact codeN
theorem openR_code (d : DiskD) : isI64 (codeA (openR d).1) := by
 unfold openR
 split
 ·exact code64 15 _ ⟨by decide, by decide⟩
 ·split
  ·rename_i x hx
   show isI64 (codeA (some x))
   rw [← hx]; exact syncA_code d
  ·unfold openS
   split
   ·exact codeN
   ·split
    ·exact code64 13 _ ⟨by decide, by decide⟩
    ·split
     ·rename_i x hx
      show isI64 (codeA (some x))
      rw [← hx]; exact wsA_code _ _ _
     ·exact codeN
def prC (g : Nat) (lv ev : Value) (m : RM) (r : RefD) (v : Value) (L : RLog) : Array Value := #[.pointer (some ⟨g, 0, none⟩), lv, ev, m.sv, m.ov, .bool r.down, .int .i64 r.steps, m.pv, .bool L.has, .int .i64 L.side, .int .u32 L.gen, .int .u32 L.last, v, .bool L.brk]
def prZ : Array Value := #[.pointer none, .pointer none, .slice none 0 0, .slice none 0 0, .slice none 0 0, .bool false, .int .i64 0, .slice none 0 0, .bool false, .int .i64 0, .int .u32 0, .int .u32 0, .slice none 0 0, .bool false]
theorem zeroPr : ∀ w, (zeroValue 39).run Tryz.prog w = .ok (.agg prZ) w := fun w => by unfold prZ; kernel_rfl
theorem prI : (Tryz.prog.info? 39).map (·.size) = some 14 := by kernel_rfl
theorem prC_list (g : Nat) (lv ev : Value) (m : RM) (r : RefD) (v : Value) (L : RLog) : (prC g lv ev m r v L).toList = [Value.pointer (some ⟨g, 0, none⟩), lv, ev] ++ (refC m r).toList ++ (rlC v L).toList := rfl
theorem prC_disk (g : Nat) (lv ev : Value) (m : RM) (r : RefD) (v : Value) (L : RLog) : prC g lv ev m r v L = ([Value.pointer (some ⟨g, 0, none⟩), lv, ev] ++ (refC m r).toList ++ (rlC v L).toList).toArray := rfl
theorem pr_disk {w : World} {gp : Nat} {g : Nat} {lv ev : Value} {m : RM} {r : RefD} {v : Value} {L : RLog} (h : Blk w gp 39 (prC g lv ev m r v L)) : w.rangeAt gp 3 (refC m r).toList := fun i u hi => by
 have hr := h.range
 rw [prC_list] at hr
 have hl : i < 5 := (List.getElem?_eq_some_iff.1 hi).1
 have := hr (3 + i) u (by rw [List.append_assoc, List.getElem?_append_right (by simp), List.getElem?_append_left (by simp [refC]; try omega)]; simpa using hi)
 rwa [Nat.zero_add] at this
theorem pr_log {w : World} {gp : Nat} {g : Nat} {lv ev : Value} {m : RM} {r : RefD} {v : Value} {L : RLog} (h : Blk w gp 39 (prC g lv ev m r v L)) : w.rangeAt gp 8 (rlC v L).toList := fun i u hi => by
 have hr := h.range
 rw [prC_list] at hr
 have hl : i < 6 := (List.getElem?_eq_some_iff.1 hi).1
 have := hr (8 + i) u (by rw [List.getElem?_append_right (by simp [refC]; try omega)]; simpa [refC] using hi)
 rwa [Nat.zero_add] at this
theorem Apart.nextP {w w' : World} {m m' : DiskM} {g gl : Nat} (h : Apart m g) (hg : g < w.heap.size) (ht : LT gl w m w' m') : Apart m' g :=
 ⟨fun hm => by
  rcases ht.sub g hm with hm | hm
  ·exact h.1 hm
  ·omega, fun k hk v hv e => by
  rcases ht.cv k v hv with h1 | h1
  ·exact h.2 k hk v h1 e
  ·have := h1 g e; omega⟩
def LO (w0 w : World) (m : DiskM) (d : DiskD) (lv : Value) (lo : Option Nat) (lg : Option LogD) : Prop :=
 (lv = .pointer none ∧ lo = none ∧ lg = none) ∨ (∃ gl L, lv = .pointer (some ⟨gl, 0, none⟩) ∧ lo = some gl ∧ lg = some L ∧ w0.heap.size ≤ gl ∧ LK w m d gl (d.sec.length / 2) L)
structure PB19 (w0 w : World) (m : DiskM) (d : DiskD) (lv ev : Value) (lo : Option Nat) (lg : Option LogD) (mr : RM) (r : RefD) (v : Value) (L : RLog) : Prop where
 st : St w0 w m d
 lg : LO w0 w m d lv lo lg
 ev : ∃ A n c, ev = .slice A n c
 rk : RK w mr r
 rl : RLK w v L
 dj : ∀ b, (b ∈ rowsOf mr r ∨ v.ownBlock = some b) → Apart m b ∧ lo ≠ some b
def Free (m : DiskM) (lo : Option Nat) (mr : RM) (r : RefD) (v : Value) (g : Nat) : Prop := Apart m g ∧ lo ≠ some g ∧ g ∉ rowsOf mr r ∧ v.ownBlock ≠ some g
section
variable {w0 w w' : World} {m m' : DiskM} {d d' : DiskD} {lv lv' ev : Value} {lo lo' : Option Nat} {lg lg' : Option LogD} {mr mr' : RM} {r r' : RefD} {v v' : Value} {L L' : RLog}
theorem LO.keep (h : LO w0 w m d lv lo lg) (hb : Below w.heap.size w w') : LO w0 w' m d lv lo lg :=
 h.imp id (fun ⟨gl, L, h1, h2, h3, h4, h5⟩ => ⟨gl, L, h1, h2, h3, h4, h5.keep hb⟩)
theorem LO.lt (h : LO w0 w m d lv lo lg) : ∀ b, lo = some b → b < w.heap.size := fun b e => by
 rcases h with ⟨_, h2, _⟩ | ⟨gl, L, _, h2, _, _, h3⟩
 ·rw [h2] at e; cases e
 ·rw [h2] at e; injection e with e; have := h3.blk.lt; omega
theorem LO.disk (h : LO w0 w m d lv lo lg) (hk : DK w' m' d') (ht : DT w m w' m') (hl : d'.sec.length = d.sec.length) : LO w0 w' m' d' lv lo lg :=
 h.imp id (fun ⟨gl, L, h1, h2, h3, h4, h5⟩ => ⟨gl, L, h1, h2, h3, h4, by rw [hl]; exact h5.disk hk ht hl⟩)
theorem LO.form (h : LO w0 w m d lv lo lg) : lv.oneCell' = true := by
 rcases h with ⟨h1, _⟩ | ⟨gl, L, h1, _⟩ <;> (rw [h1]; rfl)
theorem PB19.keep (h : PB19 w0 w m d lv ev lo lg mr r v L) (hb : Below w.heap.size w w') : PB19 w0 w' m d lv ev lo lg mr r v L := ⟨h.st.keep hb, h.lg.keep hb, h.ev, h.rk.keep hb, h.rl.keep hb, h.dj⟩
theorem PB19.rowlt (h : PB19 w0 w m d lv ev lo lg mr r v L) : ∀ b, (b ∈ rowsOf mr r ∨ v.ownBlock = some b) → b < w.heap.size := fun b hb => hb.elim (h.rk.bl b) (h.rl.lt b)
theorem PB19.log {gl : Nat} (h : PB19 w0 w m d lv ev lo lg mr r v L) (hst : St w0 w' m' d') (ht : LT gl w m w' m') (hg : lo = some gl ∨ w.heap.size ≤ gl) (hlg : LO w0 w' m' d' lv' lo' lg') (hlo : ∀ b, b < w.heap.size → lo' = some b → lo = some b) : PB19 w0 w' m' d' lv' ev lo' lg' mr r v L := by
 have hblk : ∀ b, (b ∈ rowsOf mr r ∨ v.ownBlock = some b) → w'.heap[b]? = w.heap[b]? := fun b hb => ht.fo.block b (h.rowlt b hb) (fun hm => by
  rcases List.mem_cons.1 hm with h1 | h1
  ·rcases hg with h2 | h2
   ·exact (h.dj b hb).2 (by rw [h2, h1])
   ·have := h.rowlt b hb; omega
  ·exact (h.dj b hb).1.1 h1)
 exact ⟨hst, hlg, h.ev, h.rk.same (fun b hb => hblk b (.inl hb)) ht.fo.size, h.rl.same (fun b hb => hblk b (.inr hb)) ht.fo.size, fun b hb => ⟨(h.dj b hb).1.nextP (h.rowlt b hb) ht, fun e => (h.dj b hb).2 (hlo b (h.rowlt b hb) e)⟩⟩
theorem PB19.ref (h : PB19 w0 w m d lv ev lo lg mr r v L) (hb : Below w.heap.size w w') (hk : RK w' mr' r') (hl : RLK w' v' L') (hsub : ∀ b ∈ rowsOf mr' r', b ∈ rowsOf mr r ∨ w.heap.size ≤ b) (hvs : ∀ b, v'.ownBlock = some b → v.ownBlock = some b ∨ w.heap.size ≤ b) : PB19 w0 w' m d lv ev lo lg mr' r' v' L' :=
 have hf : ∀ b, w.heap.size ≤ b → Apart m b ∧ lo ≠ some b := fun b hb => ⟨Apart.fresh h.st.dk hb, fun e => by have := h.lg.lt b e; omega⟩
 ⟨h.st.keep hb, h.lg.keep hb, h.ev, hk, hl, fun b hm => hm.elim (fun hm => (hsub b hm).elim (fun h1 => h.dj b (.inl h1)) (hf b)) (fun e => (hvs b e).elim (fun h1 => h.dj b (.inr h1)) (hf b))⟩
theorem PB19.setE (h : PB19 w0 w m d lv ev lo lg mr r v L) {ev' : Value} (he : ∃ A n c, ev' = .slice A n c) : PB19 w0 w m d lv ev' lo lg mr r v L := ⟨h.st, h.lg, he, h.rk, h.rl, h.dj⟩
theorem Free.fresh (h : PB19 w0 w m d lv ev lo lg mr r v L) {g : Nat} (hg : w.heap.size ≤ g) : Free m lo mr r v g :=
 ⟨Apart.fresh h.st.dk hg, fun e => by have := h.lg.lt g e; omega, fun hm => by have := h.rk.bl g hm; omega, fun e => by have := h.rl.lt g e; omega⟩
theorem Free.log {gl g : Nat} (h : Free m lo mr r v g) (hg : g < w.heap.size) (ht : LT gl w m w' m') (hlo : ∀ b, b < w.heap.size → lo' = some b → lo = some b) : Free m' lo' mr r v g := ⟨h.1.nextP hg ht, fun e => h.2.1 (hlo g hg e), h.2.2⟩
theorem Free.ref {g : Nat} (h : Free m lo mr r v g) (hg : g < w.heap.size) (hsub : ∀ b ∈ rowsOf mr' r', b ∈ rowsOf mr r ∨ w.heap.size ≤ b) (hvs : ∀ b, v'.ownBlock = some b → v.ownBlock = some b ∨ w.heap.size ≤ b) : Free m lo mr' r' v' g :=
 ⟨h.1, h.2.1, fun hm => (hsub g hm).elim h.2.2.1 (fun h1 => by omega), fun e => (hvs g e).elim h.2.2.2 (fun h1 => by omega)⟩
theorem PB19.off {g : Nat} (h : PB19 w0 w m d lv ev lo lg mr r v L) (hb : Below g w w') (ho : ∀ k, k ≠ g → w'.heap[k]? = w.heap[k]?) (hf : Free m lo mr r v g) (h0 : w0.heap.size ≤ g) : PB19 w0 w' m d lv ev lo lg mr r v L := by
 have hk : DK w' m d := h.st.dk.offK ho hb.size hf.1
 refine ⟨⟨hk, h.st.ft, h.st.bel.trans (hb.mono h0)⟩, h.lg.imp id (fun ⟨gl, L, h1, h2, h3, h4, h5⟩ => ⟨gl, L, h1, h2, h3, h4, ⟨hk, (ho gl (fun e => hf.2.1 (by rw [h2, e]))).trans h5.blk, h5.ap, h5.ok⟩⟩), h.ev, h.rk.offK ho hb.size hf.2.2.1, h.rl.same (fun b e => ho b (fun e2 => hf.2.2.2 (e2 ▸ e))) hb.size, h.dj⟩
theorem prC_one {g : Nat} (h : PB19 w0 w m d lv ev lo lg mr r v L) : (prC g lv ev mr r v L).all (·.oneCell') = true := by
 have h1 := refC_one h.rk
 have h2 := rlC_one h.rl
 have h3 := h.lg.form
 obtain ⟨_, _, _, he⟩ := h.ev
 rw [Array.all_eq_true_iff_forall_mem] at h1 h2 ⊢
 intro u hu
 rw [prC_disk, List.mem_toArray, List.mem_append, List.mem_append] at hu
 rcases hu with (hu | hu) | hu
 ·simp only [List.mem_cons, List.not_mem_nil, or_false] at hu
  rcases hu with rfl | rfl | rfl
  ·rfl
  ·exact h3
  ·rw [he]; rfl
 ·exact h1 u (by simpa using hu)
 ·exact h2 u (by simpa using hu)
end
theorem LT.store {gl : Nat} {w W W' : World} {m m' : DiskM} (h : LT gl w m W m') (hb : Below w.heap.size W W') : LT gl w m W' m' :=
 ⟨h.g, ⟨hb.os.trans h.fo.os, hb.tape.trans h.fo.tape, hb.output.trans h.fo.output, Nat.le_trans h.fo.size hb.size, fun k hk hn => (hb.block k hk).trans (h.fo.block k hk hn)⟩, h.sub, h.cv⟩
theorem LT.trans' {gl gl' : Nat} {w W W' : World} {m m1 m2 : DiskM} (h : LT gl w m W m1) (k : LT gl' W m1 W' m2) (hg : gl' = gl ∨ w.heap.size ≤ gl') : LT gl w m W' m2 :=
 ⟨k.g.trans h.g, ⟨k.fo.os.trans h.fo.os, k.fo.tape.trans h.fo.tape, k.fo.output.trans h.fo.output, Nat.le_trans h.fo.size k.fo.size, fun j hj hn => (k.fo.block j (Nat.lt_of_lt_of_le hj h.fo.size) (fun hm => by
   rcases List.mem_cons.1 hm with h1 | h1
   ·rcases hg with h2 | h2
    ·exact hn (by rw [h1, h2]; exact List.mem_cons_self ..)
    ·omega
   ·rcases h.sub j h1 with h2 | h2
    ·exact hn (List.mem_cons_of_mem _ h2)
    ·omega)).trans (h.fo.block j hj hn)⟩, fun x hx => by
  rcases k.sub x hx with h1 | h1
  ·exact h.sub x h1
  ·exact .inr (Nat.le_trans h.fo.size h1), fun x v hx => by
  rcases k.cv x v hx with h1 | h1
  ·exact h.cv x v h1
  ·exact .inr (fun b e => Nat.le_trans h.fo.size (h1 b e))⟩
structure XO19 (w0 w W : World) (m0 : DiskM) (lo0 : Option Nat) (mr0 : RM) (r0 : RefD) (v0 : Value) (glx : Nat) (m : DiskM) (d : DiskD) (lv ev : Value) (lo : Option Nat) (lg : Option LogD) (mr : RM) (r : RefD) (v : Value) (L : RLog) (g1 g2 : Nat) (x1 x2 : Array Value) : Prop where
 pb : PB19 w0 W m d lv ev lo lg mr r v L
 b1 : Blk W g1 39 x1
 b2 : Blk W g2 39 x2
 f1 : Free m lo mr r v g1
 f2 : Free m lo mr r v g2
 lt : LT glx w m0 W m
 sub : ∀ b, (b ∈ rowsOf mr r ∨ v.ownBlock = some b) → (b ∈ rowsOf mr0 r0 ∨ v0.ownBlock = some b) ∨ w.heap.size ≤ b
 los : ∀ b, b < w.heap.size → lo = some b → lo0 = some b
 h : w.heap.size ≤ g1 ∧ w.heap.size ≤ g2 ∧ g1 ≠ g2 ∧ w0.heap.size ≤ w.heap.size
 gx : lo0 = some glx ∨ (lo0 = none ∧ w.heap.size ≤ glx)
section
variable {w0 w W W' : World} {m0 m m' : DiskM} {lo0 lo lo' : Option Nat} {mr0 mr mr' : RM} {r0 r r' : RefD} {v0 v v' : Value} {glx gl : Nat} {d d' : DiskD} {lv lv' ev : Value} {lg lg' : Option LogD} {L L' : RLog} {g1 g2 : Nat} {x1 x2 x1' x2' : Array Value}
theorem XO19.keep (x : XO19 w0 w W m0 lo0 mr0 r0 v0 glx m d lv ev lo lg mr r v L g1 g2 x1 x2) (hb : Below W.heap.size W W') : XO19 w0 w W' m0 lo0 mr0 r0 v0 glx m d lv ev lo lg mr r v L g1 g2 x1 x2 :=
 ⟨x.pb.keep hb, x.b1.keep hb, x.b2.keep hb, x.f1, x.f2, x.lt.store (hb.mono x.lt.fo.size), x.sub, x.los, x.h, x.gx⟩
theorem XO19.st1 (x : XO19 w0 w W m0 lo0 mr0 r0 v0 glx m d lv ev lo lg mr r v L g1 g2 x1 x2) (hB : Blk W' g1 39 x1') (hb : Below g1 W W') (ho : ∀ k, k ≠ g1 → W'.heap[k]? = W.heap[k]?) : XO19 w0 w W' m0 lo0 mr0 r0 v0 glx m d lv ev lo lg mr r v L g1 g2 x1' x2 :=
 ⟨x.pb.off hb ho x.f1 (Nat.le_trans x.h.2.2.2 x.h.1), hB, (ho g2 (fun e => x.h.2.2.1 e.symm)).trans x.b2, x.f1, x.f2, x.lt.store (hb.mono x.h.1), x.sub, x.los, x.h, x.gx⟩
theorem XO19.st2 (x : XO19 w0 w W m0 lo0 mr0 r0 v0 glx m d lv ev lo lg mr r v L g1 g2 x1 x2) (hB : Blk W' g2 39 x2') (hb : Below g2 W W') (ho : ∀ k, k ≠ g2 → W'.heap[k]? = W.heap[k]?) : XO19 w0 w W' m0 lo0 mr0 r0 v0 glx m d lv ev lo lg mr r v L g1 g2 x1 x2' :=
 ⟨x.pb.off hb ho x.f2 (Nat.le_trans x.h.2.2.2 x.h.2.1), (ho g1 x.h.2.2.1).trans x.b1, hB, x.f1, x.f2, x.lt.store (hb.mono x.h.2.1), x.sub, x.los, x.h, x.gx⟩
theorem XO19.cell (x : XO19 w0 w W m0 lo0 mr0 r0 v0 glx m d lv ev lo lg mr r v L g1 g2 x1 x2) (i : Nat) (u : Value) : XO19 w0 w (W.setCell ⟨g1, i, none⟩ u) m0 lo0 mr0 r0 v0 glx m d lv ev lo lg mr r v L g1 g2 (x1.setIfInBounds i u) x2 :=
 x.st1 (x.b1.set_ i u) ((Below.refl g1 W).setCell (p := ⟨g1, i, none⟩) (Nat.le_refl _) _) (fun k hk => Below.heap_setCell W ⟨g1, i, none⟩ _ k hk)
theorem XO19.log (x : XO19 w0 w W m0 lo0 mr0 r0 v0 glx m d lv ev lo lg mr r v L g1 g2 x1 x2) (hst : St w0 W' m' d') (ht : LT gl W m W' m') (hg : lo = some gl ∨ W.heap.size ≤ gl) (hlg : LO w0 W' m' d' lv' lo' lg') (hlo : ∀ b, b < W.heap.size → lo' = some b → lo = some b) : XO19 w0 w W' m0 lo0 mr0 r0 v0 glx m' d' lv' ev lo' lg' mr r v L g1 g2 x1 x2 := by
 have hb : ∀ g (t : TypeId) (cs : Array Value), Blk W g t cs → Free m lo mr r v g → Blk W' g t cs := fun g t cs hB hf => (ht.fo.block g hB.lt (fun hm => by
  rcases List.mem_cons.1 hm with h1 | h1
  ·rcases hg with h2 | h2
   ·exact hf.2.1 (by rw [h2, h1])
   ·have := hB.lt; omega
  ·exact hf.1.1 h1)).trans hB
 have hgl : gl = glx ∨ w.heap.size ≤ gl := by
  rcases hg with h | h
  ·rcases Nat.lt_or_ge gl w.heap.size with h1 | h1
   ·have h2 := x.los gl h1 h
    rcases x.gx with h3 | ⟨h3, _⟩
    ·rw [h3] at h2
     injection h2 with h2
     exact .inl h2.symm
    ·rw [h3] at h2; cases h2
   ·exact .inr h1
  ·exact .inr (Nat.le_trans x.lt.fo.size h)
 exact ⟨x.pb.log hst ht hg hlg hlo, hb _ _ _ x.b1 x.f1, hb _ _ _ x.b2 x.f2, x.f1.log x.b1.lt ht hlo, x.f2.log x.b2.lt ht hlo, x.lt.trans' ht hgl, x.sub, fun b hb e => x.los b hb (hlo b (Nat.lt_of_lt_of_le hb x.lt.fo.size) e), x.h, x.gx⟩
theorem XO19.ref (x : XO19 w0 w W m0 lo0 mr0 r0 v0 glx m d lv ev lo lg mr r v L g1 g2 x1 x2) (hb : Below W.heap.size W W') (hk : RK W' mr' r') (hl : RLK W' v' L') (hsub : ∀ b ∈ rowsOf mr' r', b ∈ rowsOf mr r ∨ W.heap.size ≤ b) (hvs : ∀ b, v'.ownBlock = some b → v.ownBlock = some b ∨ W.heap.size ≤ b) : XO19 w0 w W' m0 lo0 mr0 r0 v0 glx m d lv ev lo lg mr' r' v' L' g1 g2 x1 x2 :=
 ⟨x.pb.ref hb hk hl hsub hvs, x.b1.keep hb, x.b2.keep hb, x.f1.ref x.b1.lt hsub hvs, x.f2.ref x.b2.lt hsub hvs, x.lt.store (hb.mono x.lt.fo.size), fun b hm => by
  have h1 : (b ∈ rowsOf mr r ∨ v.ownBlock = some b) ∨ W.heap.size ≤ b := hm.elim (fun h => (hsub b h).imp .inl id) (fun h => (hvs b h).imp .inr id)
  exact h1.elim (x.sub b) (fun h => .inr (Nat.le_trans x.lt.fo.size h)), x.los, x.h, x.gx⟩
theorem XO19.setE (x : XO19 w0 w W m0 lo0 mr0 r0 v0 glx m d lv ev lo lg mr r v L g1 g2 x1 x2) {ev' : Value} (he : ∃ A n c, ev' = .slice A n c) : XO19 w0 w W m0 lo0 mr0 r0 v0 glx m d lv ev' lo lg mr r v L g1 g2 x1 x2 := ⟨x.pb.setE he, x.b1, x.b2, x.f1, x.f2, x.lt, x.sub, x.los, x.h, x.gx⟩
end
structure XR19 (w0 w w' : World) (m0 : DiskM) (lo0 : Option Nat) (mr0 : RM) (r0 : RefD) (v0 : Value) (m : DiskM) (d : DiskD) (lv ev : Value) (lo : Option Nat) (lg : Option LogD) (mr : RM) (r : RefD) (v : Value) (L : RLog) : Prop where
 pb : PB19 w0 w' m d lv ev lo lg mr r v L
 lt : ∃ glx, LT glx w m0 w' m ∧ (lo0 = some glx ∨ w.heap.size ≤ glx)
 sub : ∀ b, (b ∈ rowsOf mr r ∨ v.ownBlock = some b) → (b ∈ rowsOf mr0 r0 ∨ v0.ownBlock = some b) ∨ w.heap.size ≤ b
 los : ∀ b, b < w.heap.size → lo = some b → lo0 = some b
theorem XO19.ret {w0 w W : World} {m0 m : DiskM} {lo0 lo : Option Nat} {mr0 mr : RM} {r0 r : RefD} {v0 v : Value} {glx : Nat} {d : DiskD} {lv ev : Value} {lg : Option LogD} {L : RLog} {g1 g2 : Nat} {x1 x2 : Array Value} (x : XO19 w0 w W m0 lo0 mr0 r0 v0 glx m d lv ev lo lg mr r v L g1 g2 x1 x2) : XR19 w0 w W m0 lo0 mr0 r0 v0 m d lv ev lo lg mr r v L := ⟨x.pb, ⟨glx, x.lt, x.gx.imp id (fun h => h.2)⟩, x.sub, x.los⟩
end Go.Proofs.YtillkpjflcgkeaaGreat
namespace Go.Proofs.YtillkpjflcgkeaaGreat
open Go.RowKit
attribute [local irreducible] wpQuiet wpAnyH
def appO (d : DiskD) (lg : Option LogD) (q : Ent2) : DiskD × Option LogD := match lg with
 | none => (d, none)
 | some L => (appD d (d.sec.length / 2) L q, some (appL d (d.sec.length / 2) L q))
def rewO (d : DiskD) (lg : Option LogD) (qs : List Ent2) : DiskD × Option LogD := match lg with
 | none => (d, none)
 | some L => ((rewR d (d.sec.length / 2) L qs).2.1, some (rewR d (d.sec.length / 2) L qs).2.2)
section
variable {w0 w : World} {m : DiskM} {d : DiskD} {lv ev : Value} {lo : Option Nat} {lg : Option LogD} {mr : RM} {r : RefD} {v : Value} {L : RLog}
theorem pr_append (q : Ent2) (h : PB19 w0 w m d lv ev lo lg mr r v L) (hq : EntOk q) (hr : d.room + 3 ≤ 100000) :
  Calls Tryz.prog 19 #[lv, .agg (entP q).toArray] w fun e w' => ∃ x m' gl, e = .returned (valE x) ∧ isI64 (codeA x) ∧ m'.g = m.g ∧ St w0 w' m' (appO d lg q).1 ∧ LT gl w m w' m' ∧ (lo = some gl ∨ w.heap.size ≤ gl) ∧ LO w0 w' m' (appO d lg q).1 lv lo (appO d lg q).2 := by
 rcases h.lg with ⟨rfl, h2, rfl⟩ | ⟨gl, L, rfl, h2, rfl, h4, h5⟩
 ·refine (log_append_nil q w hq).mono ?_
  rintro e w' ⟨rfl, hb⟩
  exact ⟨_, m, w.heap.size, rfl, ⟨by decide, by decide⟩, rfl, h.st.keep hb, LT.of_below hb, .inr (Nat.le_refl _), .inl ⟨rfl, h2, rfl⟩⟩
 ·refine (log_append q w m d gl _ L h5 hq hr).mono ?_
  rintro e w' ⟨rfl, m', hlk, ht⟩
  exact ⟨_, m', gl, rfl, appA_code _ _ _ _, ht.g, h.st.log hlk.dk ht h4, ht, .inl h2, .inr ⟨gl, _, rfl, h2, rfl, h4, by have := hlk.ok.half; show LK w' m' (appD d (d.sec.length / 2) L q) gl ((appD d (d.sec.length / 2) L q).sec.length / 2) _; rw [← this]; exact hlk⟩⟩
theorem pr_rewrite (qs : List Ent2) (A : Option Addr) (cap : Nat) (h : PB19 w0 w m d lv ev lo lg mr r v L) (hs : Sn w 33 (.slice A qs.length cap) qs.length (qs.flatMap entP)) (hok : ∀ q ∈ qs, EntOk q) (hln : qs.length ≤ 10000) (hr : d.room + 30000 ≤ 100000) :
  Calls Tryz.prog 18 #[lv, .slice A qs.length cap] w fun e w' => ∃ x m' gl, e = .returned (valE x) ∧ isI64 (codeA x) ∧ m'.g = m.g ∧ St w0 w' m' (rewO d lg qs).1 ∧ LT gl w m w' m' ∧ (lo = some gl ∨ w.heap.size ≤ gl) ∧ LO w0 w' m' (rewO d lg qs).1 lv lo (rewO d lg qs).2 := by
 rcases h.lg with ⟨rfl, h2, rfl⟩ | ⟨gl, L, rfl, h2, rfl, h4, h5⟩
 ·refine (log_rewrite_nil _ w).mono ?_
  rintro e w' ⟨rfl, hb⟩
  exact ⟨_, m, w.heap.size, rfl, ⟨by decide, by decide⟩, rfl, by rw [hb]; exact h.st, LT.of_below (by rw [hb]; exact Below.refl _ _), .inr (Nat.le_refl _), .inl ⟨rfl, h2, rfl⟩⟩
 ·refine (log_rewrite qs A cap w m d gl _ L h5 hs hok hln hr).mono ?_
  rintro e w' ⟨rfl, m', hlk, ht⟩
  exact ⟨_, m', gl, rfl, rewR_code _ _ _ _, ht.g, h.st.log hlk.dk ht h4, ht, .inl h2, .inr ⟨gl, _, rfl, h2, rfl, h4, by have := hlk.ok.half; show LK w' m' (rewR d (d.sec.length / 2) L qs).2.1 gl ((rewR d (d.sec.length / 2) L qs).2.1.sec.length / 2) _; rw [← this]; exact hlk⟩⟩
end
def recO (o : Op19) : List Int := if o.more.length = 0 then rec o.gen toll else rec o.gen (o.ent.1 ++ beB 8 (o.ent.2 % 18446744073709551616).toNat)
def opD19 (d : DiskD) (lg : Option LogD) (o : Op19) : DiskD × Option LogD :=
 if o.kind = 0 then appO d lg o.ent
 else if o.kind = 1 then rewO d lg o.more
 else if o.kind = 2 then ((openR d).2.1, (openR d).2.2.map (·.1))
 else if o.kind = 3 then (writeD d o.pos (recO o), lg)
 else if o.kind = 4 then (planF d o.pos, lg)
 else if o.kind = 5 then (planC d o.pos o.cuts, lg)
 else if o.kind = 6 then (crashD d o.cuts, lg)
 else ((openR (startD d)).2.1, (openR (startD d)).2.2.map (·.1))
def rupD (r : RefD) : RefD := { r with down := false }
def opR19 (r : RefD) (L : RLog) (o : Op19) (v : Value) : RefD × RLog :=
 if o.kind = 0 then (rappD r L o.ent, rappL r L o.ent)
 else if o.kind = 1 then ((rrewR r L o.more).1, (rrewR r L o.more).2.1)
 else if o.kind = 2 then ((ropenR r).1, (ropenR r).2.1)
 else if o.kind = 3 then (rwriteD r o.pos (recO o), L)
 else if o.kind = 4 then (rplanD r o.pos false [] v, L)
 else if o.kind = 5 then (rplanD r o.pos true o.cuts v, L)
 else if o.kind = 6 then (rcrashD r o.cuts, L)
 else ((ropenR (rupD r)).1, (ropenR (rupD r)).2.1)
end Go.Proofs.YtillkpjflcgkeaaGreat
namespace Go.Proofs.YtillkpjflcgkeaaGreat
open Go.RowKit
attribute [local irreducible] wpQuiet wpAnyH
theorem Free.blk {W W' : World} {m m' : DiskM} {lo : Option Nat} {mr : RM} {r : RefD} {v : Value} {g gl : Nat} {t : TypeId} {cs : Array Value} (hf : Free m lo mr r v g) (hB : Blk W g t cs) (ht : LT gl W m W' m') (hg : lo = some gl ∨ W.heap.size ≤ gl) : Blk W' g t cs :=
 (ht.fo.block g hB.lt (fun hm => by
  rcases List.mem_cons.1 hm with h1 | h1
  ·rcases hg with h2 | h2
   ·exact hf.2.1 (by rw [h2, h1])
   ·have := hB.lt; omega
  ·exact hf.1.1 h1)).trans hB
theorem Free.xr {w0 W W' : World} {m m' : DiskM} {d' : DiskD} {lv' ev' : Value} {lo lo' : Option Nat} {lg' : Option LogD} {mr mr' : RM} {r r' : RefD} {v v' : Value} {L' : RLog} {g : Nat} (hf : Free m lo mr r v g) (hg : g < W.heap.size) (k : XR19 w0 W W' m lo mr r v m' d' lv' ev' lo' lg' mr' r' v' L') : Free m' lo' mr' r' v' g := by
 obtain ⟨glx, ht, _⟩ := k.lt
 have hs : ∀ h : (g ∈ rowsOf mr' r' ∨ v'.ownBlock = some g), False := fun h => by
  rcases k.sub g h with (h1 | h1) | h1
  ·exact hf.2.2.1 h1
  ·exact hf.2.2.2 h1
  ·omega
 exact ⟨hf.1.nextP hg ht, fun e => hf.2.1 (k.los g hg e), fun hm => hs (.inl hm), fun e => hs (.inr e)⟩
structure PX19 (w0 w W : World) (m0 : DiskM) (lo0 : Option Nat) (mr0 : RM) (r0 : RefD) (v0 : Value) (glx : Nat) (m : DiskM) (d : DiskD) (lv ev : Value) (lo : Option Nat) (lg : Option LogD) (mr : RM) (r : RefD) (v : Value) (L : RLog) (x1 x2 : Array Value) (o : Op19) : Prop where
 x : XO19 w0 w W m0 lo0 mr0 r0 v0 glx m d lv ev lo lg mr r v L w.heap.size (w.heap.size + 2) x1 x2
 bo : Blk W (w.heap.size + 1) 46 (opC19 o).toArray
 fo : Free m lo mr r v (w.heap.size + 1)
section
variable {w0 w W W' : World} {m0 m m' : DiskM} {lo0 lo lo' : Option Nat} {mr0 mr mr' : RM} {r0 r r' : RefD} {v0 v v' : Value} {glx gl : Nat} {d d' : DiskD} {lv lv' ev ev' : Value} {lg lg' : Option LogD} {L L' : RLog} {x1 x2 x1' x2' : Array Value} {o : Op19}
theorem PX19.keep (x : PX19 w0 w W m0 lo0 mr0 r0 v0 glx m d lv ev lo lg mr r v L x1 x2 o) (hb : Below W.heap.size W W') : PX19 w0 w W' m0 lo0 mr0 r0 v0 glx m d lv ev lo lg mr r v L x1 x2 o := ⟨x.x.keep hb, x.bo.keep hb, x.fo⟩
theorem PX19.st1 (x : PX19 w0 w W m0 lo0 mr0 r0 v0 glx m d lv ev lo lg mr r v L x1 x2 o) (hB : Blk W' w.heap.size 39 x1') (hb : Below w.heap.size W W') (ho : ∀ k, k ≠ w.heap.size → W'.heap[k]? = W.heap[k]?) : PX19 w0 w W' m0 lo0 mr0 r0 v0 glx m d lv ev lo lg mr r v L x1' x2 o := ⟨x.x.st1 hB hb ho, (ho _ (by omega)).trans x.bo, x.fo⟩
theorem PX19.st2 (x : PX19 w0 w W m0 lo0 mr0 r0 v0 glx m d lv ev lo lg mr r v L x1 x2 o) (hB : Blk W' (w.heap.size + 2) 39 x2') (hb : Below (w.heap.size + 2) W W') (ho : ∀ k, k ≠ w.heap.size + 2 → W'.heap[k]? = W.heap[k]?) : PX19 w0 w W' m0 lo0 mr0 r0 v0 glx m d lv ev lo lg mr r v L x1 x2' o := ⟨x.x.st2 hB hb ho, (ho _ (by omega)).trans x.bo, x.fo⟩
theorem PX19.log (x : PX19 w0 w W m0 lo0 mr0 r0 v0 glx m d lv ev lo lg mr r v L x1 x2 o) (hst : St w0 W' m' d') (ht : LT gl W m W' m') (hg : lo = some gl ∨ W.heap.size ≤ gl) (hlg : LO w0 W' m' d' lv' lo' lg') (hlo : ∀ b, b < W.heap.size → lo' = some b → lo = some b) : PX19 w0 w W' m0 lo0 mr0 r0 v0 glx m' d' lv' ev lo' lg' mr r v L x1 x2 o := ⟨x.x.log hst ht hg hlg hlo, x.fo.blk x.bo ht hg, x.fo.log x.bo.lt ht hlo⟩
theorem PX19.disk (x : PX19 w0 w W m0 lo0 mr0 r0 v0 glx m d lv ev lo lg mr r v L x1 x2 o) (hk : DK W' m' d') (ht : DT W m W' m') (hl : d'.sec.length = d.sec.length) : PX19 w0 w W' m0 lo0 mr0 r0 v0 glx m' d' lv ev lo lg mr r v L x1 x2 o := x.log (gl := W.heap.size) (x.x.pb.st.next hk ht) (LT.of_dt ht) (.inr (Nat.le_refl _)) (x.x.pb.lg.disk hk ht hl) (fun _ _ e => e)
theorem PX19.ref (x : PX19 w0 w W m0 lo0 mr0 r0 v0 glx m d lv ev lo lg mr r v L x1 x2 o) (hb : Below W.heap.size W W') (hk : RK W' mr' r') (hl : RLK W' v' L') (hsub : ∀ b ∈ rowsOf mr' r', b ∈ rowsOf mr r ∨ W.heap.size ≤ b) (hvs : ∀ b, v'.ownBlock = some b → v.ownBlock = some b ∨ W.heap.size ≤ b) : PX19 w0 w W' m0 lo0 mr0 r0 v0 glx m d lv ev lo lg mr' r' v' L' x1 x2 o := ⟨x.x.ref hb hk hl hsub hvs, x.bo.keep hb, x.fo.ref x.bo.lt hsub hvs⟩
theorem PX19.refD (x : PX19 w0 w W m0 lo0 mr0 r0 v0 glx m d lv ev lo lg mr r v L x1 x2 o) (hb : Below W.heap.size W W') (hk : RK W' mr' r') (hsub : ∀ b ∈ rowsOf mr' r', b ∈ rowsOf mr r ∨ W.heap.size ≤ b) : PX19 w0 w W' m0 lo0 mr0 r0 v0 glx m d lv ev lo lg mr' r' v L x1 x2 o := x.ref hb hk (x.x.pb.rl.keep hb) hsub (fun _ e => .inl e)
theorem XO19.xr {g1 g2 : Nat} (x : XO19 w0 w W m0 lo0 mr0 r0 v0 glx m d lv ev lo lg mr r v L g1 g2 x1 x2) (k : XR19 w0 W W' m lo mr r v m' d' lv' ev' lo' lg' mr' r' v' L') : XO19 w0 w W' m0 lo0 mr0 r0 v0 glx m' d' lv' ev' lo' lg' mr' r' v' L' g1 g2 x1 x2 := by
 obtain ⟨gl, ht, hg⟩ := k.lt
 have hgl : gl = glx ∨ w.heap.size ≤ gl := by
  rcases hg with h | h
  ·rcases Nat.lt_or_ge gl w.heap.size with h1 | h1
   ·have h2 := x.los gl h1 h
    rcases x.gx with h3 | ⟨h3, _⟩
    ·rw [h3] at h2
     injection h2 with h2
     exact .inl h2.symm
    ·rw [h3] at h2; cases h2
   ·exact .inr h1
  ·exact .inr (Nat.le_trans x.lt.fo.size h)
 exact ⟨k.pb, x.f1.blk x.b1 ht hg, x.f2.blk x.b2 ht hg, x.f1.xr x.b1.lt k, x.f2.xr x.b2.lt k, x.lt.trans' ht hgl, fun b hb => by
  rcases k.sub b hb with h1 | h1
  ·exact x.sub b h1
  ·exact .inr (Nat.le_trans x.lt.fo.size h1), fun b hb e => x.los b hb (k.los b (Nat.lt_of_lt_of_le hb x.lt.fo.size) e), x.h, x.gx⟩
theorem PX19.xr (x : PX19 w0 w W m0 lo0 mr0 r0 v0 glx m d lv ev lo lg mr r v L x1 x2 o) (k : XR19 w0 W W' m lo mr r v m' d' lv' ev' lo' lg' mr' r' v' L') : PX19 w0 w W' m0 lo0 mr0 r0 v0 glx m' d' lv' ev' lo' lg' mr' r' v' L' x1 x2 o := by
 have hx := x.x.xr k
 obtain ⟨gl, ht, hg⟩ := k.lt
 exact ⟨hx, x.fo.blk x.bo ht hg, x.fo.xr x.bo.lt k⟩
end
end Go.Proofs.YtillkpjflcgkeaaGreat
