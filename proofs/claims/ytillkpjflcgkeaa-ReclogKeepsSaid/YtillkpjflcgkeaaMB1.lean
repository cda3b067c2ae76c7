/- Parts: ReclogKeeps: what stands between two operations. | ReclogKeeps: what an append, a rewriting, an opening come to. | The codes of the answers of the disk, the slot and the log lie within int. Plain. | ReclogKeeps: appending, rewriting and opening, told of what stands between two operations. -/
import Derived.Test.YtillkpjflcgkeaaMA27
import Derived.Test.YtillkpjflcgkeaaMA26
import Derived.Test.YtillkpjflcgkeaaMA21
import Derived.Test.YtillkpjflcgkeaaMA22
namespace Go.Proofs.Ytillkpjflcgkeaa
open Go.RowKit
attribute [local irreducible] wpQuiet wpAnyH
set_option linter.unusedSimpArgs false

/-- A slice of entries that stands apart from the disk, from the log lo and from the row mb. -/
structure VE (w : World) (m : DiskM) (lo mb : Option Nat) (v : Value) (es : List Ent2) : Prop where
  sn : Sn w 33 v es.length (es.flatMap entP)
  nf : 0 < es.length → ∀ b, v.ownBlock = some b → Apart m b ∧ lo ≠ some b ∧ mb ≠ some b ∧ b < w.heap.size
  ok : ∀ q ∈ es, EntOk q
  ln : es.length ≤ 100
section
variable {w w' : World} {m m' : DiskM} {d : DiskD} {lo lo' mb mb' : Option Nat} {v : Value} {es : List Ent2}
theorem sn_zero {w w' : World} {s : Nat} {v : Value} {xs : List Value} (h : Sn w s v 0 xs) : Sn w' s v 0 xs := by
  obtain ⟨A, cap, hv, hc, hl, _⟩ := h
  exact ⟨A, cap, hv, hc, hl, fun h => absurd h (by omega)⟩
theorem VE.keep (k : VE w m lo mb v es) (hb : Below w.heap.size w w') : VE w' m lo mb v es :=
  ⟨k.sn.below hb, fun h0 b e => ⟨(k.nf h0 b e).1, (k.nf h0 b e).2.1, (k.nf h0 b e).2.2.1, Nat.lt_of_lt_of_le (k.nf h0 b e).2.2.2 hb.size⟩, k.ok, k.ln⟩
theorem VE.lt {gl : Nat} (k : VE w m lo mb v es) (ht : LT gl w m w' m') (hg : lo = some gl ∨ w.heap.size ≤ gl) : VE w' m' lo mb v es := by
  rcases Nat.eq_zero_or_pos es.length with h0 | h0
  · have hes : es = [] := List.eq_nil_of_length_eq_zero h0
    subst hes
    exact ⟨sn_zero k.sn, fun h => absurd h (by simp), k.ok, k.ln⟩
  · have hne : ∀ b, v.ownBlock = some b → b ≠ gl := fun b e h => by
      have hn := k.nf h0 b e
      rcases hg with hg | hg
      · exact hn.2.1 (by rw [hg, h])
      · have := hn.2.2.2; omega
    exact ⟨ht.fo.sn k.sn (fun b e hm => (List.mem_cons.1 hm).elim (hne b e) (k.nf h0 b e).1.1), fun h0 b e => ⟨(k.nf h0 b e).1.nextL (k.nf h0 b e).2.2.2 ht, (k.nf h0 b e).2.1, (k.nf h0 b e).2.2.1, Nat.lt_of_lt_of_le (k.nf h0 b e).2.2.2 ht.fo.size⟩, k.ok, k.ln⟩
theorem VE.dt (k : VE w m lo mb v es) (ht : DT w m w' m') : VE w' m' lo mb v es := k.lt (gl := w.heap.size) (LT.of_dt ht) (.inr (Nat.le_refl _))
theorem VE.re (k : VE w m lo mb v es) (h1 : ∀ b, b < w.heap.size → lo' = some b → lo = some b) (h2 : ∀ b, b < w.heap.size → mb' = some b → mb = some b) : VE w m lo' mb' v es :=
  ⟨k.sn, fun h0 b e => have h := k.nf h0 b e
    ⟨h.1, fun e2 => h.2.1 (h1 b h.2.2.2 e2), fun e2 => h.2.2.1 (h2 b h.2.2.2 e2), h.2.2.2⟩, k.ok, k.ln⟩
/-- Behind an append onto the row mb. -/
theorem VE.grow (k : VE w m lo mb v es) (hg : w.grownBy w' mb) (h2 : mb' = mb ∨ mb' = some w.heap.size) : VE w' m lo mb' v es := by
  rcases Nat.eq_zero_or_pos es.length with h0 | h0
  · have hes : es = [] := List.eq_nil_of_length_eq_zero h0
    subst hes
    exact ⟨sn_zero k.sn, fun h => absurd h (by simp), k.ok, k.ln⟩
  · refine ⟨?_, fun h0 b e => have h := k.nf h0 b e
      ⟨h.1, h.2.1, fun e2 => ?_, Nat.lt_of_lt_of_le h.2.2.2 hg.size⟩, k.ok, k.ln⟩
    · obtain ⟨A, cap, rfl, q1, q2, hx⟩ := k.sn
      refine ⟨A, cap, rfl, q1, q2, fun hp => ?_⟩
      obtain ⟨g, o, rfl, hcell⟩ := hx hp
      have hn := k.nf h0 g rfl
      exact ⟨g, o, rfl, fun j u hj => (World.cell?_of_block (a := ⟨g, o + j, none⟩) (hg.block g hn.2.2.2 (fun e => hn.2.2.1 e.symm))).trans (hcell j u hj)⟩
    · rcases h2 with h2 | h2
      · exact h.2.2.1 (h2.symm.trans e2)
      · rw [h2] at e2
        injection e2 with e2
        have := h.2.2.2
        omega
theorem St.grown {w0 : World} (k : St w0 w m d) {row : Option Nat} (hg : w.grownBy w' row) (ha : ∀ b, row = some b → Apart m b ∧ w0.heap.size ≤ b) : St w0 w' m d :=
  ⟨k.dk.grown hg (fun b e => (ha b e).1), k.ft, k.bel.grown hg k.bel.size (fun b e => (ha b e).2)⟩
/-- The cuts' rows lie behind w0. -/
def CB (w0 : World) (m : DiskM) : Prop := ∀ j, isI64 j → ∀ u, m.cv j = some u → ∀ b, u.ownBlock = some b → w0.heap.size ≤ b
theorem CB.lt {w0 : World} {gl : Nat} (k : CB w0 m) (ht : LT gl w m w' m') (hs : w0.heap.size ≤ w.heap.size) : CB w0 m' := fun j hj u hu b e => by
  rcases ht.cv j u hu with h | h
  · exact k j hj u h b e
  · have := h b e; omega
theorem CB.dt {w0 : World} (k : CB w0 m) (ht : DT w m w' m') (hs : w0.heap.size ≤ w.heap.size) : CB w0 m' := k.lt (gl := 0) (LT.of_dt ht) hs
theorem CB.new {w0 : World} {n : Nat} (hk : DK w m (newD n)) : CB w0 m := fun j hj u hu b e => by
  have h := hk.crv j hj
  have h2 : m.cv j = none := h
  rw [h2] at hu
  cases hu
theorem VE.old {w0 : World} (hst : St w0 w m d) (hcb : CB w0 m) (hs : Sn w0 33 v es.length (es.flatMap entP)) (hok : ∀ q ∈ es, EntOk q) (hln : es.length ≤ 100) (hlo : ∀ b, lo = some b → w0.heap.size ≤ b) (hmb : ∀ b, mb = some b → w0.heap.size ≤ b) : VE w m lo mb v es := by
  refine ⟨hs.below hst.bel, fun h0 b e => ?_, hok, hln⟩
  obtain ⟨A, cap, rfl, q1, q2, hx⟩ := id hs
  have hlt := hs.blk_lt h0 (by omega) b e
  exact ⟨⟨fun hm => by have := hst.ft b hm; omega, fun j hj u hu e2 => by have := hcb j hj u hu b e2; omega⟩, fun e2 => by have := hlo b e2; omega, fun e2 => by have := hmb b e2; omega, Nat.lt_of_lt_of_le hlt hst.bel.size⟩
end
def PK (nowL : List Ent2) (mayL : List (List Ent2)) : Nat → List Ent2 → Prop := fun _ es => es ∈ nowL :: mayL
/-- The log. -/
def LG (w0 wr : World) (m : DiskM) (d : DiskD) (lv : Value) (lo : Option Nat) (k : Nat) (nowL : List Ent2) (mayL : List (List Ent2)) : Prop :=
  (lv = .pointer none ∧ lo = none ∧ SB (PK nowL mayL) 10 k d) ∨
  (∃ gl L, lv = .pointer (some ⟨gl, 0, none⟩) ∧ lo = some gl ∧ w0.heap.size ≤ gl ∧ LK wr m d gl 5 L ∧ ((L.brk = true ∧ SB (PK nowL mayL) 10 k d) ∨ (SA (PK nowL []) 10 k d L nowL ∧ mayL = [])))
/-- The disk, the law's own slices. -/
structure KB (w0 wr : World) (m : DiskM) (d : DiskD) (k : Nat) (vn vm : Value) (lo : Option Nat) (nowL : List Ent2) (mayL : List (List Ent2)) (mv : List Value) : Prop where
  st : St w0 wr m d
  rm : d.room ≤ 60 * k
  cb : CB w0 m
  now : VE wr m lo vm.ownBlock vn nowL
  own : wr.ownsRow w0.heap.size 31 1 vm mv.length mv
  mnf : ∀ b, vm.ownBlock = some b → Apart m b ∧ lo ≠ some b
  ml : mv.length = mayL.length
  me : ∀ i, i < mv.length → VE wr m lo vm.ownBlock (mv.getD i .nilIface) (mayL.getD i [])
  mle : mayL.length ≤ k
theorem LG.lo {w0 wr : World} {m : DiskM} {d : DiskD} {lv : Value} {lo : Option Nat} {k : Nat} {nowL : List Ent2} {mayL : List (List Ent2)} (h : LG w0 wr m d lv lo k nowL mayL) : ∀ b, lo = some b → w0.heap.size ≤ b := fun b e => by
  rcases h with ⟨_, h2, _⟩ | ⟨gl, L, _, h2, h3, _⟩
  · rw [h2] at e; cases e
  · rw [h2] at e; injection e with e; omega
theorem LG.sb {w0 wr : World} {m : DiskM} {d : DiskD} {lv : Value} {lo : Option Nat} {k : Nat} {nowL : List Ent2} {mayL : List (List Ent2)} (h : LG w0 wr m d lv lo k nowL mayL) : SB (PK nowL mayL) 10 k d := by
  rcases h with ⟨_, _, h3⟩ | ⟨gl, L, _, _, _, _, ⟨_, h3⟩ | ⟨h3, h4⟩⟩
  · exact h3
  · exact h3
  · rw [h4]; exact h3.sb
section
variable {w0 wr wx : World} {m m' : DiskM} {d d' : DiskD} {k : Nat} {vn vm lv : Value} {lo : Option Nat} {nowL : List Ent2} {mayL : List (List Ent2)} {mv : List Value}
theorem LG.keep (h : LG w0 wr m d lv lo k nowL mayL) (hb : Below wr.heap.size wr wx) : LG w0 wx m d lv lo k nowL mayL :=
  h.imp id (fun ⟨gl, L, h1, h2, h3, h4, h5⟩ => ⟨gl, L, h1, h2, h3, h4.keep hb, h5⟩)
theorem LG.more (h : LG w0 wr m d lv lo k nowL mayL) : LG w0 wr m d lv lo (k + 1) nowL mayL :=
  h.imp (fun ⟨h1, h2, h3⟩ => ⟨h1, h2, h3.imp (fun _ _ h => h) (by omega)⟩) (fun ⟨gl, L, h1, h2, h3, h4, h5⟩ => ⟨gl, L, h1, h2, h3, h4, h5.imp (fun ⟨a, b⟩ => ⟨a, b.imp (fun _ _ h => h) (by omega)⟩) (fun ⟨a, b⟩ => ⟨a.imp (fun h => h) (by omega), b⟩)⟩)
/-- An operation on the disk that keeps the sectors and the writes, or crashes. -/
theorem LG.disk (h : LG w0 wr m d lv lo k nowL mayL) (hk : DK wx m' d') (ht : DT wr m wx m') (hl : d'.sec.length = d.sec.length) (h1 : SB (PK nowL mayL) 10 k d → SB (PK nowL mayL) 10 k d') (h2 : ∀ L, SA (PK nowL []) 10 k d L nowL → SA (PK nowL []) 10 k d' L nowL) : LG w0 wx m' d' lv lo k nowL mayL :=
  h.imp (fun ⟨a, b, c⟩ => ⟨a, b, h1 c⟩) (fun ⟨gl, L, a, b, c, e, f⟩ => ⟨gl, L, a, b, c, e.disk hk ht hl, f.imp (fun ⟨x, y⟩ => ⟨x, h1 y⟩) (fun ⟨x, y⟩ => ⟨h2 L x, y⟩)⟩)
theorem KB.keep (h : KB w0 wr m d k vn vm lo nowL mayL mv) (hb : Below wr.heap.size wr wx) : KB w0 wx m d k vn vm lo nowL mayL mv :=
  ⟨h.st.keep hb, h.rm, h.cb, h.now.keep hb, own_below h.own hb, h.mnf, h.ml, fun i hi => (h.me i hi).keep hb, h.mle⟩
theorem KB.more (h : KB w0 wr m d k vn vm lo nowL mayL mv) : KB w0 wr m d (k + 1) vn vm lo nowL mayL mv :=
  ⟨h.st, by have := h.rm; omega, h.cb, h.now, h.own, h.mnf, h.ml, h.me, by have := h.mle; omega⟩
theorem KB.lt {gl : Nat} (h : KB w0 wr m d k vn vm lo nowL mayL mv) (ht : LT gl wr m wx m') (hg : lo = some gl ∨ wr.heap.size ≤ gl) (hst : St w0 wx m' d') (hr : d'.room ≤ d.room + 60) : KB w0 wx m' d' (k + 1) vn vm lo nowL mayL mv := by
  have hne : ∀ b, vm.ownBlock = some b → b ≠ gl := fun b e h2 => by
    rcases hg with hg | hg
    · exact (h.mnf b e).2 (by rw [hg, h2])
    · have := (h.own.lt b e).2; omega
  exact ⟨hst, by have := h.rm; omega, h.cb.lt ht h.st.bel.size, h.now.lt ht hg, own_blk h.own (fun b e => ht.fo.block b (h.own.lt b e).2 (fun hm => (List.mem_cons.1 hm).elim (hne b e) (h.mnf b e).1.1)), fun b e => ⟨(h.mnf b e).1.nextL (h.own.lt b e).2 ht, (h.mnf b e).2⟩, h.ml, fun i hi => (h.me i hi).lt ht hg, by have := h.mle; omega⟩
theorem KB.dt (h : KB w0 wr m d k vn vm lo nowL mayL mv) (hk : DK wx m' d') (ht : DT wr m wx m') (hr : d'.room ≤ d.room + 60) : KB w0 wx m' d' (k + 1) vn vm lo nowL mayL mv :=
  h.lt (gl := wr.heap.size) (LT.of_dt ht) (.inr (Nat.le_refl _)) (h.st.next hk ht) hr
theorem KB.setNow {v : Value} {es : List Ent2} (h : KB w0 wr m d k vn vm lo nowL mayL mv) (hv : VE wr m lo vm.ownBlock v es) : KB w0 wr m d k v vm lo es mayL mv := ⟨h.st, h.rm, h.cb, hv, h.own, h.mnf, h.ml, h.me, h.mle⟩
theorem KB.clear (h : KB w0 wr m d k vn vm lo nowL mayL mv) : KB w0 wr m d k vn (.slice none 0 0) lo nowL [] [] :=
  ⟨h.st, h.rm, h.cb, h.now.re (fun _ _ e => e) (fun b _ e => (by cases e)), World.ownsRow_nil _ _ _ _, (fun b e => by cases e), rfl, (fun i hi => absurd hi (Nat.not_lt_zero i)), Nat.zero_le _⟩
theorem KB.relo {lo' : Option Nat} (h : KB w0 wr m d k vn vm lo nowL mayL mv) (hl : ∀ b, b < wr.heap.size → lo' = some b → lo = some b) : KB w0 wr m d k vn vm lo' nowL mayL mv :=
  ⟨h.st, h.rm, h.cb, h.now.re hl (fun _ _ e => e), h.own, fun b e => ⟨(h.mnf b e).1, fun e2 => (h.mnf b e).2 (hl b (h.own.lt b e).2 e2)⟩, h.ml, fun i hi => (h.me i hi).re hl (fun _ _ e => e), h.mle⟩
/-- A slice more at the end of the row. -/
theorem KB.push {x v' : Value} {es : List Ent2} (h : KB w0 wr m d k vn vm lo nowL mayL mv) (hlo : ∀ b, lo = some b → b < wr.heap.size) (hx : VE wr m lo vm.ownBlock x es) (ho : wx.ownsRow w0.heap.size 31 1 v' (mv.length + 1) (mv ++ [x])) (hg : wr.grownBy wx vm.ownBlock) (hb : v'.ownBlock = vm.ownBlock ∨ v'.ownBlock = some wr.heap.size) (hk : mayL.length + 1 ≤ k) :
    KB w0 wx m d k vn v' lo nowL (mayL ++ [es]) (mv ++ [x]) := by
  have hml := h.ml
  refine ⟨h.st.grown hg (fun b e => ⟨(h.mnf b e).1, (h.own.lt b e).1⟩), h.rm, h.cb, h.now.grow hg hb, by rw [List.length_append]; exact ho, fun b e => ?_, by simp [hml], fun i hi => ?_, by simpa using hk⟩
  · rcases hb with hb | hb
    · exact h.mnf b (hb ▸ e)
    · rw [hb] at e
      injection e with e
      subst e
      exact ⟨Apart.fresh h.st.dk (Nat.le_refl _), fun e2 => by have := hlo _ e2; omega⟩
  · rw [List.length_append, List.length_singleton] at hi
    rcases Nat.lt_or_ge i mv.length with h1 | h1
    · rw [List.getD_eq_getElem?_getD, List.getElem?_append_left h1, ← List.getD_eq_getElem?_getD, List.getD_eq_getElem?_getD (l := mayL ++ [es]), List.getElem?_append_left (by omega), ← List.getD_eq_getElem?_getD]
      exact (h.me i h1).grow hg hb
    · have : i = mv.length := by omega
      subst this
      rw [List.getD_eq_getElem?_getD, List.getElem?_append_right (Nat.le_refl _), List.getD_eq_getElem?_getD, hml, List.getElem?_append_right (Nat.le_refl _)]
      simpa using hx.grow hg hb
/-- What stands between two operations. -/
structure KI (w0 wr : World) (m : DiskM) (d : DiskD) (k : Nat) (vn vm lv : Value) (lo : Option Nat) (nowL : List Ent2) (mayL : List (List Ent2)) (mv : List Value) : Prop where
  kb : KB w0 wr m d k vn vm lo nowL mayL mv
  lg : LG w0 wr m d lv lo k nowL mayL
theorem KI.keep (h : KI w0 wr m d k vn vm lv lo nowL mayL mv) (hb : Below wr.heap.size wr wx) : KI w0 wx m d k vn vm lv lo nowL mayL mv := ⟨h.kb.keep hb, h.lg.keep hb⟩
theorem KI.more (h : KI w0 wr m d k vn vm lv lo nowL mayL mv) : KI w0 wr m d (k + 1) vn vm lv lo nowL mayL mv := ⟨h.kb.more, h.lg.more⟩
/-- The same behind an operation on the disk alone. -/
theorem KI.disk (h : KI w0 wr m d k vn vm lv lo nowL mayL mv) (hk : DK wx m' d') (ht : DT wr m wx m') (hl : d'.sec.length = d.sec.length) (hr : d'.room ≤ d.room + 60) (h1 : SB (PK nowL mayL) 10 k d → SB (PK nowL mayL) 10 k d') (h2 : ∀ L, SA (PK nowL []) 10 k d L nowL → SA (PK nowL []) 10 k d' L nowL) : KI w0 wx m' d' (k + 1) vn vm lv lo nowL mayL mv :=
  ⟨h.kb.dt hk ht hr, (h.lg.disk hk ht hl h1 h2).more⟩
theorem appD_bd {d : DiskD} (h : d.steps ≤ d.room) (hh : Nat) (L : LogD) (q : Ent2) : (appD d hh L q).room ≤ d.room + 3 := by
  unfold appD
  split
  · omega
  · unfold putD
    split
    · omega
    · split
      · omega
      · split
        · exact (wsD_bd h _ _).2.1
        · omega
theorem rewR_bd {d : DiskD} (h : d.steps ≤ d.room) (hh : Nat) (L : LogD) (qs : List Ent2) : (rewR d hh L qs).2.1.room ≤ d.room + 2 * qs.length + 4 := by
  unfold rewR
  split
  · show d.room ≤ _; omega
  · split
    · show d.room ≤ _; omega
    · unfold rewS
      have h1 := fillR_bd h (sFrom hh (1 - L.side)) hh (max L.last L.gen + 1) qs
      have h2 := wsD_bd h1.1 (sFrom hh (1 - L.side)) (rec (max L.last L.gen + 1) toll)
      have h3 := h1.2.1
      have h4 := h2.2.1
      unfold rewW
      split
      · show (fillR d (sFrom hh (1 - L.side)) hh (max L.last L.gen + 1) qs).2.room ≤ _; omega
      · split
        · show (wsD (fillR d (sFrom hh (1 - L.side)) hh (max L.last L.gen + 1) qs).2 _ _).room ≤ _; omega
        · show (wsD (fillR d (sFrom hh (1 - L.side)) hh (max L.last L.gen + 1) qs).2 _ _).room ≤ _; omega
theorem openR_bd {d : DiskD} (h : d.steps ≤ d.room) : (openR d).2.1.room ≤ d.room + 4 := by
  have h1 := syncS_bd h
  have h2 := h1.2.1
  unfold openR
  split
  · show d.room ≤ _; omega
  · split
    · show (syncS d).room ≤ _; omega
    · unfold openS
      have h3 := wsD_bd h1.1 0 (rec (lastN (syncS d) (syncS d).sec.length + 1) toll)
      have h4 := h3.2.1
      split
      · show (syncS d).room ≤ _; omega
      · split
        · show (syncS d).room ≤ _; omega
        · split
          · show (wsD (syncS d) 0 _).room ≤ _; omega
          · show (wsD (syncS d) 0 _).room ≤ _; omega
theorem SB.pF {P : Nat → List Ent2 → Prop} {N K : Nat} (h : SB P N K d) (n : Int) : SB P N K (planF d n) := by
  unfold planF
  split
  · exact h
  · exact h.disk rfl rfl
theorem SA.pF {P : Nat → List Ent2 → Prop} {N K : Nat} {L : LogD} {es : List Ent2} (h : SA P N K d L es) (n : Int) : SA P N K (planF d n) L es := by
  unfold planF
  split
  · exact h
  · exact h.disk rfl rfl
theorem SB.pC {P : Nat → List Ent2 → Prop} {N K : Nat} (h : SB P N K d) (n : Int) (cl : List Int) : SB P N K (planC d n cl) := by
  unfold planC
  split
  · exact h
  · exact h.disk rfl rfl
theorem SA.pC {P : Nat → List Ent2 → Prop} {N K : Nat} {L : LogD} {es : List Ent2} (h : SA P N K d L es) (n : Int) (cl : List Int) : SA P N K (planC d n cl) L es := by
  unfold planC
  split
  · exact h
  · exact h.disk rfl rfl
theorem plan_bd (d : DiskD) (n : Int) (cl : List Int) : ((planF d n).room ≤ d.room + 1 ∧ (planF d n).sec.length = d.sec.length) ∧ (planC d n cl).room ≤ d.room + 1 ∧ (planC d n cl).sec.length = d.sec.length := by
  unfold planF planC
  constructor
  · split
    · exact ⟨by omega, rfl⟩
    · exact ⟨Nat.le_refl _, rfl⟩
  · split
    · exact ⟨by omega, rfl⟩
    · exact ⟨Nat.le_refl _, rfl⟩
end
end Go.Proofs.Ytillkpjflcgkeaa
namespace Go.Proofs.Ytillkpjflcgkeaa
open Go.RowKit
attribute [local irreducible] wpQuiet wpAnyH
set_option linter.unusedSimpArgs false

def LS2 (d : DiskD) (L : LogD) (k : Nat) (nowL : List Ent2) (mayL : List (List Ent2)) : Prop := (L.brk = true ∧ SB (PK nowL mayL) 10 k d) ∨ (SA (PK nowL []) 10 k d L nowL ∧ mayL = [])
theorem PK.more {nowL : List Ent2} {mayL : List (List Ent2)} (x : List Ent2) : ∀ g es, PK nowL mayL g es → PK nowL (mayL ++ [x]) g es := fun _ es h => by
  unfold PK at h ⊢
  rw [List.mem_cons, List.mem_append]
  rcases List.mem_cons.1 h with h | h
  · exact .inl h
  · exact .inr (.inl h)
theorem LS2.len {d : DiskD} {L : LogD} {k : Nat} {nowL : List Ent2} (h : SA (PK nowL []) 10 k d L nowL) : nowL.length ≤ 4 := by
  have := h.lv.fit
  omega
theorem app_lg {d : DiskD} {L : LogD} {k : Nat} {nowL : List Ent2} {mayL : List (List Ent2)} (h : LS2 d L k nowL mayL) (hk : DOk d) (hK : k < 256) {q : Ent2} (hq : EntOk q) :
    (appA d 5 L q = none ∧ SA (PK (nowL ++ [q]) []) 10 k (appD d 5 L q) (appL d 5 L q) (nowL ++ [q])) ∨
    (∃ x, appA d 5 L q = some x ∧ ((x.1 = 11 ∨ x.1 = 12) → LS2 (appD d 5 L q) (appL d 5 L q) k nowL (mayL ++ [nowL ++ [q]])) ∧ (x.1 ≠ 11 → x.1 ≠ 12 → LS2 (appD d 5 L q) (appL d 5 L q) k nowL mayL)) := by
  rcases h with ⟨hb, hsb⟩ | ⟨hsa, hm⟩
  · have e1 : appA d 5 L q = some (11, none) := by unfold appA; rw [if_pos hb]
    have e2 : appD d 5 L q = d := by unfold appD; rw [if_pos hb]
    have e3 : appL d 5 L q = L := by unfold appL; rw [if_pos hb]
    rw [e1, e2, e3]
    exact .inr ⟨_, rfl, fun _ => .inl ⟨hb, hsb.imp (PK.more _) (Nat.le_refl _)⟩, fun h => absurd rfl h⟩
  · subst hm
    have h1 := sa_append (P' := PK nowL [nowL ++ [q]]) hsa hk hK hq (by unfold PK; simp) (by unfold PK; simp)
    have e5 : (10 / 2 : Nat) = 5 := rfl
    rw [e5] at h1
    rcases h1 with ⟨a1, a2, _⟩ | ⟨x, a1, a2, a3, a4⟩ | ⟨x, a1, a2, a3, a4, a5⟩
    · exact .inl ⟨a1, a2.imp (fun _ => by unfold PK; simp) (Nat.le_refl _)⟩
    · refine .inr ⟨x, a1, fun _ => .inl ⟨by rw [a4], a3⟩, fun n1 n2 => ?_⟩
      rcases a2 with a2 | a2
      · exact absurd a2 n1
      · exact absurd a2 n2
    · refine .inr ⟨x, a1, fun h => ?_, fun _ _ => by rw [a4, a5]; exact .inr ⟨hsa, rfl⟩⟩
      rcases h with h | h
      · exact absurd h a2
      · exact absurd h a3
theorem LS2.more {d : DiskD} {L : LogD} {k : Nat} {nowL : List Ent2} {mayL : List (List Ent2)} (h : LS2 d L k nowL mayL) : LS2 d L (k + 1) nowL mayL :=
  h.imp (fun ⟨a, b⟩ => ⟨a, b.imp (fun _ _ h => h) (by omega)⟩) (fun ⟨a, b⟩ => ⟨a.imp (fun h => h) (by omega), b⟩)
theorem rew_lg {d : DiskD} {L : LogD} {k : Nat} {nowL : List Ent2} {mayL : List (List Ent2)} (h : LS2 d L k nowL mayL) (hk : DOk d) (hK : k + 1 < 256) {qs : List Ent2} (hq : ∀ q ∈ qs, EntOk q) :
    ((rewR d 5 L qs).1 = none ∧ SA (PK qs []) 10 (k + 1) (rewR d 5 L qs).2.1 (rewR d 5 L qs).2.2 qs) ∨
    (∃ x, (rewR d 5 L qs).1 = some x ∧ ((x.1 = 11 ∨ x.1 = 12) → LS2 (rewR d 5 L qs).2.1 (rewR d 5 L qs).2.2 (k + 1) nowL (mayL ++ [qs])) ∧ (x.1 ≠ 11 → x.1 ≠ 12 → LS2 (rewR d 5 L qs).2.1 (rewR d 5 L qs).2.2 (k + 1) nowL mayL)) := by
  rcases h with ⟨hb, hsb⟩ | ⟨hsa, hm⟩
  · have e1 : rewR d 5 L qs = (some (11, none), d, L) := by unfold rewR; rw [if_pos hb]
    rw [e1]
    exact .inr ⟨_, rfl, fun _ => .inl ⟨hb, hsb.imp (PK.more _) (by omega)⟩, fun h => absurd rfl h⟩
  · subst hm
    have h1 := sa_rewrite (P' := PK nowL [qs]) hsa hk hK hq (by unfold PK; simp) (fun _ _ => by unfold PK; simp)
    have e5 : (10 / 2 : Nat) = 5 := rfl
    rw [e5] at h1
    rcases h1 with ⟨a1, a2, _⟩ | ⟨x, a1, a2, a3, a4⟩ | ⟨x, a1, a2, a3, a4, a5⟩
    · exact .inl ⟨a1, a2.imp (fun _ => by unfold PK; simp) (Nat.le_refl _)⟩
    · refine .inr ⟨x, a1, fun _ => .inl ⟨by rw [a4], a3⟩, fun n1 n2 => ?_⟩
      rcases a2 with a2 | a2
      · exact absurd a2 n1
      · exact absurd a2 n2
    · refine .inr ⟨x, a1, fun h => ?_, fun _ _ => by rw [a4, a5]; exact (LS2.more (.inr ⟨hsa, rfl⟩))⟩
      rcases h with h | h
      · exact absurd h a2
      · exact absurd h a3
theorem open_lg {d : DiskD} {k : Nat} {nowL : List Ent2} {mayL : List (List Ent2)} (h : SB (PK nowL mayL) 10 k d) (hk : DOk d) (hK : k + 1 < 256) :
    (∃ x, (openR d).1 = some x ∧ (openR d).2.2 = none ∧ SB (PK nowL mayL) 10 (k + 1) (openR d).2.1) ∨ (∃ L es, (openR d).1 = none ∧ (openR d).2.2 = some (L, es) ∧ es ∈ nowL :: mayL ∧ SA (PK es []) 10 (k + 1) (openR d).2.1 L es) := by
  rcases sb_open (P := PK nowL mayL) (fun h => h) h hk (by omega) hK with h1 | ⟨L, es, a1, a2, a3⟩
  · exact .inl h1
  · exact .inr ⟨L, es, a1, a2, a3.p, a3.imp (fun _ => by unfold PK; simp) (Nat.le_refl _)⟩
theorem SB.start {P : Nat → List Ent2 → Prop} {N K : Nat} {d : DiskD} (h : SB P N K d) : SB P N K (startD d) := h.disk rfl rfl
end Go.Proofs.Ytillkpjflcgkeaa
namespace Go.Proofs.Ytillkpjflcgkeaa
open Go.RowKit
attribute [local irreducible] wpQuiet wpAnyH
set_option linter.unusedSimpArgs false

theorem codeN : isI64 (codeA none) := ⟨by decide, by decide⟩
theorem code64 (c : Int) (o : Option Int) (h : isI64 c) : isI64 (codeA (some (c, o))) := h
theorem writeA_code (d : DiskD) (a : Int) : isI64 (codeA (writeA d a)) := by
  unfold writeA
  split
  · exact ⟨by decide, by decide⟩
  · split
    · exact ⟨by decide, by decide⟩
    · split
      · exact ⟨by decide, by decide⟩
      · split
        · exact ⟨by decide, by decide⟩
        · exact code64 15 _ ⟨by decide, by decide⟩
theorem syncA_code (d : DiskD) : isI64 (codeA (syncA d)) := by
  unfold syncA
  split
  · exact ⟨by decide, by decide⟩
  · split
    · exact ⟨by decide, by decide⟩
    · split
      · exact ⟨by decide, by decide⟩
      · exact ⟨by decide, by decide⟩
theorem wsA_code (d : DiskD) (a : Int) (s : List Int) : isI64 (codeA (wsA d a s)) := by
  unfold wsA
  split
  · rename_i x h
    rw [← h]; exact writeA_code d a
  · exact syncA_code _
theorem putA_code (d : DiskD) (f z p : Int) (g : Nat) (q : Ent2) : isI64 (codeA (putA d f z p g q)) := by
  unfold putA
  split
  · exact ⟨by decide, by decide⟩
  · split
    · exact ⟨by decide, by decide⟩
    · split
      · exact wsA_code _ _ _
      · exact ⟨by decide, by decide⟩
theorem fillW_code : ∀ (L : List (List Int)) (d : DiskD) (a : Int), isI64 (codeA (fillW d a L).1)
  | [], d, a => syncA_code d
  | s :: L, d, a => by
    unfold fillW
    split
    · rename_i x h
      show isI64 (codeA (some x))
      rw [← h]; exact writeA_code d a
    · exact fillW_code L _ _
theorem fillR_code (d : DiskD) (f z : Int) (g : Nat) (l : List Ent2) : isI64 (codeA (fillR d f z g l).1) := by
  unfold fillR
  split
  · exact code64 13 _ ⟨by decide, by decide⟩
  · split
    · exact fillW_code _ _ _
    · exact code64 15 _ ⟨by decide, by decide⟩
theorem appA_code (d : DiskD) (h : Nat) (L : LogD) (q : Ent2) : isI64 (codeA (appA d h L q)) := by
  unfold appA
  split
  · exact code64 11 _ ⟨by decide, by decide⟩
  · exact putA_code _ _ _ _ _ _
theorem rewR_code (d : DiskD) (h : Nat) (L : LogD) (qs : List Ent2) : isI64 (codeA (rewR d h L qs).1) := by
  unfold rewR
  split
  · exact code64 11 _ ⟨by decide, by decide⟩
  · split
    · exact code64 13 _ ⟨by decide, by decide⟩
    · unfold rewS
      have h1 := fillR_code d (sFrom h (1 - L.side)) h (max L.last L.gen + 1) qs
      have h2 := wsA_code (fillR d (sFrom h (1 - L.side)) h (max L.last L.gen + 1) qs).2 (sFrom h (1 - L.side)) (rec (max L.last L.gen + 1) toll)
      unfold rewW
      split
      · rename_i x hx
        rw [hx] at h1
        exact h1
      · split
        · rename_i x hx
          rw [hx] at h2
          exact h2
        · exact codeN
theorem openR_code (d : DiskD) : isI64 (codeA (openR d).1) := by
  unfold openR
  split
  · exact code64 15 _ ⟨by decide, by decide⟩
  · split
    · rename_i x hx
      show isI64 (codeA (some x))
      rw [← hx]; exact syncA_code d
    · unfold openS
      split
      · exact codeN
      · split
        · exact code64 13 _ ⟨by decide, by decide⟩
        · split
          · rename_i x hx
            show isI64 (codeA (some x))
            rw [← hx]; exact wsA_code _ _ _
          · exact codeN
end Go.Proofs.Ytillkpjflcgkeaa
namespace Go.Proofs.Ytillkpjflcgkeaa
open Go.RowKit
attribute [local irreducible] wpQuiet wpAnyH
set_option linter.unusedSimpArgs false

theorem VE.own {w w2 : World} {m : DiskM} {d : DiskD} {lo mb : Option Nat} {v : Value} {es : List Ent2} {B : Nat} (hk : DK w m d) (hB : w.heap.size ≤ B) (ho : w2.ownsRow B 25 33 v es.length (es.flatMap entP)) (hlo : ∀ b, lo = some b → b < w.heap.size) (hmb : ∀ b, mb = some b → b < w.heap.size) (hok : ∀ q ∈ es, EntOk q) (hln : es.length ≤ 100) : VE w2 m lo mb v es :=
  ⟨Sn.own ho, fun _ b e => ⟨Apart.fresh hk (Nat.le_trans hB (ho.lt b e).1), fun e2 => by have := hlo b e2; have := (ho.lt b e).1; omega, fun e2 => by have := hmb b e2; have := (ho.lt b e).1; omega, (ho.lt b e).2⟩, hok, hln⟩
theorem LG.lo_lt {w0 wr : World} {m : DiskM} {d : DiskD} {lv : Value} {lo : Option Nat} {k : Nat} {nowL : List Ent2} {mayL : List (List Ent2)} (h : LG w0 wr m d lv lo k nowL mayL) : ∀ b, lo = some b → b < wr.heap.size := fun b e => by
  rcases h with ⟨_, h2, _⟩ | ⟨gl, L, _, h2, _, h3, _⟩
  · rw [h2] at e; cases e
  · rw [h2] at e; injection e with e; have := h3.blk.lt; omega
theorem KB.mb_lt {w0 wr : World} {m : DiskM} {d : DiskD} {k : Nat} {vn vm : Value} {lo : Option Nat} {nowL : List Ent2} {mayL : List (List Ent2)} {mv : List Value} (h : KB w0 wr m d k vn vm lo nowL mayL mv) : ∀ b, vm.ownBlock = some b → b < wr.heap.size := fun b e => (h.own.lt b e).2
/-- What an append or a rewriting leaves. -/
structure KA (w0 w w' : World) (m m' : DiskM) (d' : DiskD) (k : Nat) (vn vm lv : Value) (lo : Option Nat) (nowL nextL : List Ent2) (mayL : List (List Ent2)) (mv : List Value) (x : Ans) : Prop where
  lt : ∃ gl, LT gl w m w' m' ∧ (lo = some gl ∨ w.heap.size ≤ gl)
  kb : KB w0 w' m' d' (k + 1) vn vm lo nowL mayL mv
  cd : isI64 (codeA x)
  ok : x = none → LG w0 w' m' d' lv lo (k + 1) nextL [] ∧ nextL.length ≤ 4
  dk : x ≠ none → lv ≠ .pointer none → codeA x = 11 ∨ codeA x = 12 → LG w0 w' m' d' lv lo (k + 1) nowL (mayL ++ [nextL])
  ot : x ≠ none → lv = .pointer none ∨ ¬ (codeA x = 11 ∨ codeA x = 12) → LG w0 w' m' d' lv lo (k + 1) nowL mayL
section
variable {w0 w : World} {m : DiskM} {d : DiskD} {k : Nat} {vn vm lv : Value} {lo : Option Nat} {nowL : List Ent2} {mayL : List (List Ent2)} {mv : List Value}
theorem KA.of_nil {w' : World} {nextL : List Ent2} (h : KI w0 w m d k vn vm lv lo nowL mayL mv) (hb : Below w.heap.size w w') (hv : lv = .pointer none) {x : Int × Option Int} (hx : isI64 (codeA (some x))) : KA w0 w w' m m d k vn vm lv lo nowL nextL mayL mv (some x) :=
  ⟨⟨w.heap.size, LT.of_below hb, .inr (Nat.le_refl _)⟩, (h.kb.keep hb).more, hx, (fun e => by cases e), fun _ h2 => absurd hv h2, fun _ _ => (h.lg.keep hb).more⟩
theorem kp_append (q : Ent2) (h : KI w0 w m d k vn vm lv lo nowL mayL mv) (hq : EntOk q) (hk : k ≤ 40) :
    Calls Try.prog 9 #[lv, .agg (entP q).toArray] w fun e w' => ∃ x m' d', e = .returned (valE x) ∧ m'.g = m.g ∧ KA w0 w w' m m' d' k vn vm lv lo nowL (nowL ++ [q]) mayL mv x := by
  have hrm := h.kb.rm
  rcases h.lg with ⟨hv, h2, h3⟩ | ⟨gl, L, hv, h2, h3, h4, h5⟩
  · have hvv := hv
    subst hv
    refine (log_append_nil q w hq).mono ?_
    rintro e w' ⟨rfl, hb⟩
    exact ⟨_, m, d, rfl, rfl, KA.of_nil h hb rfl ⟨by decide, by decide⟩⟩
  · subst hv
    refine (log_append q w m d gl 5 L h4 hq (by omega)).mono ?_
    rintro e w' ⟨rfl, m', hlk, ht⟩
    have hst := h.kb.st.log hlk.dk ht h3
    have hbd := appD_bd h.kb.st.dk.ok.st 5 L q
    have h6 := app_lg h5 h4.dk.ok (by omega) hq
    have hLG : ∀ (nL : List Ent2) (mL : List (List Ent2)), LS2 (appD d 5 L q) (appL d 5 L q) (k + 1) nL mL → LG w0 w' m' (appD d 5 L q) (.pointer (some ⟨gl, 0, none⟩)) lo (k + 1) nL mL := fun nL mL hl => .inr ⟨gl, _, rfl, h2, h3, hlk, hl⟩
    refine ⟨_, m', _, rfl, ht.g, ⟨gl, ht, .inl h2⟩, h.kb.lt ht (.inl h2) hst (by omega), appA_code _ _ _ _, fun hx => ?_, fun hx _ hc => ?_, fun hx hc => ?_⟩
    · rcases h6 with ⟨_, h8⟩ | ⟨y, h7, _⟩
      · exact ⟨hLG _ _ (LS2.more (.inr ⟨h8, rfl⟩)), LS2.len h8⟩
      · rw [h7] at hx; cases hx
    · rcases h6 with ⟨h7, _⟩ | ⟨y, h7, h8, _⟩
      · exact absurd h7 hx
      · rw [h7] at hc
        exact hLG _ _ (LS2.more (h8 hc))
    · rcases hc with hc | hc
      · cases hc
      · rcases h6 with ⟨h7, _⟩ | ⟨y, h7, _, h9⟩
        · exact absurd h7 hx
        · rw [h7] at hc
          exact hLG _ _ (LS2.more (h9 (fun e => hc (.inl e)) (fun e => hc (.inr e))))
theorem kp_rewrite (qs : List Ent2) (A : Option Addr) (cap : Nat) (h : KI w0 w m d k vn vm lv lo nowL mayL mv) (hs : Sn w 33 (.slice A qs.length cap) qs.length (qs.flatMap entP)) (hok : ∀ q ∈ qs, EntOk q) (hln : qs.length ≤ 20) (hk : k ≤ 40) :
    Calls Try.prog 12 #[lv, .slice A qs.length cap] w fun e w' => ∃ x m' d', e = .returned (valE x) ∧ m'.g = m.g ∧ KA w0 w w' m m' d' k vn vm lv lo nowL qs mayL mv x := by
  have hrm := h.kb.rm
  rcases h.lg with ⟨hv, h2, h3⟩ | ⟨gl, L, hv, h2, h3, h4, h5⟩
  · subst hv
    refine (log_rewrite_nil _ w).mono ?_
    rintro e w' ⟨rfl, hb⟩
    exact ⟨_, m, d, rfl, rfl, KA.of_nil h (by rw [hb]; exact Below.refl _ _) rfl ⟨by decide, by decide⟩⟩
  · subst hv
    refine (log_rewrite qs A cap w m d gl 5 L h4 hs hok (by omega) (by omega)).mono ?_
    rintro e w' ⟨rfl, m', hlk, ht⟩
    have hst := h.kb.st.log hlk.dk ht h3
    have hbd := rewR_bd h.kb.st.dk.ok.st 5 L qs
    have h6 := rew_lg h5 h4.dk.ok (by omega) hok
    have hLG : ∀ (nL : List Ent2) (mL : List (List Ent2)), LS2 (rewR d 5 L qs).2.1 (rewR d 5 L qs).2.2 (k + 1) nL mL → LG w0 w' m' (rewR d 5 L qs).2.1 (.pointer (some ⟨gl, 0, none⟩)) lo (k + 1) nL mL := fun nL mL hl => .inr ⟨gl, _, rfl, h2, h3, hlk, hl⟩
    refine ⟨_, m', _, rfl, ht.g, ⟨gl, ht, .inl h2⟩, h.kb.lt ht (.inl h2) hst (by omega), rewR_code _ _ _ _, fun hx => ?_, fun hx _ hc => ?_, fun hx hc => ?_⟩
    · rcases h6 with ⟨_, h8⟩ | ⟨y, h7, _⟩
      · exact ⟨hLG _ _ (.inr ⟨h8, rfl⟩), LS2.len h8⟩
      · rw [h7] at hx; cases hx
    · rcases h6 with ⟨h7, _⟩ | ⟨y, h7, h8, _⟩
      · exact absurd h7 hx
      · rw [h7] at hc
        exact hLG _ _ (h8 hc)
    · rcases hc with hc | hc
      · cases hc
      · rcases h6 with ⟨h7, _⟩ | ⟨y, h7, _, h9⟩
        · exact absurd h7 hx
        · rw [h7] at hc
          exact hLG _ _ (h9 (fun e => hc (.inl e)) (fun e => hc (.inr e)))
/-- What an opening leaves. -/
structure KO (w0 w' : World) (m' : DiskM) (d' : DiskD) (k : Nat) (vn vm pl ve : Value) (gl : Nat) (nowL es : List Ent2) (mayL : List (List Ent2)) (mv : List Value) (n : Nat) : Prop where
  kb : KB w0 w' m' d' (k + 1) vn vm (some gl) nowL mayL mv
  lg : LG w0 w' m' d' pl (some gl) (k + 1) es []
  ve : VE w' m' (some gl) vm.ownBlock ve es
  mem : es ∈ nowL :: mayL
  len : es.length ≤ 4
  cnt : ∃ L, LogP w' gl m'.g 5 L ∧ L.cnt = n
  n : n = es.length
theorem kp_open (h : KI w0 w m d k vn vm lv lo nowL mayL mv) (hk : k ≤ 40) (hl : d.sec.length = 10) :
    Calls Try.prog 8 #[.pointer (some ⟨m.g, 0, none⟩)] w fun e w' => ∃ x pl ve m' d', e = .returned (.tuple #[pl, ve, valE x]) ∧ m'.g = m.g ∧ d'.sec.length = 10 ∧
      (x ≠ none → pl = .pointer none ∧ KI w0 w' m' d' (k + 1) vn vm (.pointer none) none nowL mayL mv) ∧
      (x = none → ∃ gl es, pl = .pointer (some ⟨gl, 0, none⟩) ∧ KO w0 w' m' d' k vn vm pl ve gl nowL es mayL mv es.length) := by
  have hrm := h.kb.rm
  refine (log_open w m d h.kb.st.dk (by omega)).mono ?_
  rintro e w' ⟨pl, ve, m', rfl, hk', ht, how⟩
  have hbd := openR_bd h.kb.st.dk.ok.st
  have hop := open_lg h.lg.sb h.kb.st.dk.ok (by omega)
  refine ⟨_, pl, ve, m', (openR d).2.1, rfl, ht.g, ?_, fun hx => ?_, fun hx => ?_⟩
  · rcases hop with ⟨_, _, _, h3⟩ | ⟨_, _, _, _, _, h3⟩
    · exact h3.len
    · exact h3.len
  · rcases hop with ⟨y, h1, h2, h3⟩ | ⟨L, es, h1, _⟩
    · unfold OpenW at how
      rw [h2] at how
      exact ⟨how.1, (h.kb.dt hk' ht (by omega)).relo (fun b _ e => by cases e), .inl ⟨rfl, rfl, h3⟩⟩
    · exact absurd h1 hx
  · rcases hop with ⟨y, h1, _⟩ | ⟨L, es, _, h2, h3, h4⟩
    · rw [h1] at hx; cases hx
    · unfold OpenW at how
      rw [h2, hl] at how
      obtain ⟨gl, rfl, hlk, hgl, hown, hok, hoa⟩ := how
      have h5 : es.length ≤ 4 := LS2.len h4
      have hkb := (h.kb.relo (lo' := some gl) (fun b hb e => by injection e with e; omega)).dt hk' ht (by omega)
      exact ⟨gl, es, rfl, ⟨hkb, .inr ⟨gl, L, rfl, rfl, Nat.le_trans h.kb.st.bel.size hgl, hlk, .inr ⟨h4, rfl⟩⟩, ⟨Sn.own hown, fun _ b e => ⟨(hoa b e).1, fun e2 => (hoa b e).2 (by injection e2 with e2; exact e2.symm), fun e2 => by have := h.kb.mb_lt b e2; have := (hown.lt b e).1; omega, (hown.lt b e).2⟩, hok, by omega⟩, h3, h5, ⟨L, hlk.blk, h4.cnt⟩, rfl⟩⟩
end
end Go.Proofs.Ytillkpjflcgkeaa
