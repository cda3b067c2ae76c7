/- What stands while the reference reads a line: words for the state; the tail of a slice. -/
import Derived.Test.YtmaifldiondchaaDoorCutS
import Derived.Test.YtmaifldiondchaaDoorPar3
import Derived.Test.YtmaifldiondchaaDoorScr4
import Derived.Test.YtmaifldiondchaaDoorParse24
import Derived.Test.YtmaifldiondchaaDoorHeld
import Derived.Test.YtmaifldiondchaaDoorScrG
namespace Go.Proofs.YtmaifldiondchaaDoor
open Go.RowKit
set_option linter.unusedSimpArgs false

theorem size_str (w : World) : (sizeOf 9).run Tryd.prog w = .ok 1 w := by kernel_rfl
-- the tail of a slice of strings
set_option maxRecDepth 100000 in
theorem tail_str {A : Option Addr} {n ca : Nat} : ∃ A' ca', (∀ W, (Instr.sliceAt 50 (.slice A (n + 1) ca) (some (.int .i64 1)) none none).run Tryd.prog W = .ok (.slice A' n ca') W) ∧ (∀ (W : World) (x : Bs) (xs : List Bs), Sn W 1 (.slice A (n + 1) ca) (n + 1) (strC (x :: xs)) → Sn W 1 (.slice A' n ca') n (strC xs)) ∧ (∀ a, A' = some a → ∃ a', A = some a' ∧ a'.block = a.block) := by
  have hrun : ∀ W, (Instr.sliceAt 50 (.slice A (n + 1) ca) (some (.int .i64 1)) none none).run Tryd.prog W = .ok (.slice (if ca = 1 then A else A.map (·.add 1)) n (ca - 1)) W := fun W => by
    rw [run_sliceAt_slice W _ _ _ _ _ Tryd.underlying50, run_slice_l W _ _ _ _ Tryd.underlying50 _ _ (by omega) (by omega)]
    rw [show Tryd.prog.elem 50 = 9 by kernel_rfl, size_str]
    rfl
  refine ⟨_, _, hrun, fun W x xs h => ?_, fun a e => ?_⟩
  · obtain ⟨A1, cap1, hv, hc, hl, hx⟩ := h
    injection hv with e1 _ e3
    subst e1 e3
    refine ⟨_, _, rfl, by omega, by simp [strC] at hl ⊢; omega, fun hp => ?_⟩
    obtain ⟨b, off, rfl, hcell⟩ := hx (by omega)
    refine ⟨b, off + 1, ?_, fun j u hj => ?_⟩
    · rw [if_neg (by omega)]; rfl
    · have := hcell (j + 1) u (by simpa [strC] using hj)
      rw [show off + 1 + j = off + (j + 1) by omega]
      exact this
  · split at e
    · exact ⟨a, e, rfl⟩
    · cases A with
      | none => cases e
      | some a' =>
        simp only [Option.map_some, Option.some.injEq] at e
        exact ⟨a', rfl, by rw [← e]; rfl⟩
/-- The operation's box g is written; the rest of what stood at W2 is as it was. -/
structure RP (W2 : World) (g : Nat) (k n : Int) (dv cv : Value) (wr : World) : Prop where
  box : Blk wr g 26 #[.int .i64 k, .int .i64 n, dv, cv]
  gr : W2.grownBy wr (some g)
theorem RP.blk {W2 : World} {g : Nat} {k n : Int} {dv cv : Value} {wr : World} (h : RP W2 g k n dv cv wr) {b : Nat} (hb : b < W2.heap.size) (hn : b ≠ g) : wr.heap[b]? = W2.heap[b]? := h.gr.block b hb (fun e => hn (Option.some.inj e))
theorem RP.sn {W2 : World} {g : Nat} {k n : Int} {dv cv : Value} {wr : World} (h : RP W2 g k n dv cv wr) {A : Option Addr} {m ca : Nat} {xs : List Value} (hs : Sn W2 1 (.slice A m ca) m xs) (hA : ∀ a, A = some a → a.block < g) (hg : g < W2.heap.size) : Sn wr 1 (.slice A m ca) m xs := by
  obtain ⟨A1, cap1, hv, hc, hl, hx⟩ := hs
  injection hv with e1 _ e3
  subst e1 e3
  refine ⟨_, _, rfl, hc, hl, fun hp => ?_⟩
  obtain ⟨b, off, e, hcell⟩ := hx hp
  have hlt := hA _ e
  exact ⟨b, off, e, fun j u hj => (World.cell?_of_block (a := ⟨b, off + j, none⟩) (h.blk (Nat.lt_trans hlt hg) (Nat.ne_of_lt hlt))).trans (hcell j u hj)⟩
theorem RP.bel {W2 : World} {g : Nat} {k n : Int} {dv cv : Value} {wr : World} (h : RP W2 g k n dv cv wr) {B : Nat} {w : World} (hb : Below B w W2) (hg : B ≤ g) (hg2 : g < W2.heap.size) : Below B w wr :=
  hb.trans ⟨h.gr.os, h.gr.tape, h.gr.output, h.gr.size, fun k hk => h.gr.block k (by omega) (fun e => by have := Option.some.inj e; omega)⟩
theorem RP.app {W2 : World} {g : Nat} {k n : Int} {dv cv : Value} {wr : World} (h : RP W2 g k n dv cv wr) (hg : g < W2.heap.size) {w' w3 : World} {v : Value} (h1 : wr.grownBy w' none) (hgr : w'.grownBy w3 v.ownBlock) (hd : ∀ b, v.ownBlock = some b → W2.heap.size ≤ b) : Blk w3 g 26 #[.int .i64 k, .int .i64 n, dv, cv] ∧ W2.grownBy w3 (some g) := by
  have hs := h.gr.size
  have hs1 := h1.size
  have hblk : ∀ b, b < W2.heap.size → w3.heap[b]? = wr.heap[b]? := fun b hb => (hgr.block b (by omega) (fun e => by have := hd b e.symm; omega)).trans (h1.block b (by omega) (by simp))
  exact ⟨(hblk g hg).trans h.box, ⟨hgr.os.trans (h1.os.trans h.gr.os), hgr.tape.trans (h1.tape.trans h.gr.tape), hgr.output.trans (h1.output.trans h.gr.output), by have := hgr.size; omega, fun b hb hn => (hblk b hb).trans (h.gr.block b hb hn)⟩⟩
theorem grown_alloc (w : World) (m : Nat) (o : Obj) : w.grownBy ((w.drewN m).alloc o) none :=
  ⟨rfl, rfl, rfl, by simp, fun b hb _ => Below.heap_alloc (w.drewN m) o b hb⟩
theorem RP.app2 {W2 : World} {g : Nat} {k n : Int} {dv cv : Value} {wr : World} (h : RP W2 g k n dv cv wr) (hg : g < W2.heap.size) (m : Nat) (o : Obj) {w3 : World} (hgr : ((wr.drewN m).alloc o).grownBy w3 dv.ownBlock) (hd : ∀ b, dv.ownBlock = some b → W2.heap.size ≤ b) : Blk w3 g 26 #[.int .i64 k, .int .i64 n, dv, cv] ∧ (∀ v, RP W2 g k n v cv (w3.setCell ⟨g, 2, none⟩ v)) := by
  obtain ⟨h1, h2⟩ := h.app hg (grown_alloc wr m o) hgr hd
  refine ⟨h1, fun v => ⟨h1.set_ 2 _, ⟨h2.os, h2.tape, h2.output, by have := h2.size; simpa using this, fun b hb hn => (Below.heap_setCell w3 ⟨g, 2, none⟩ _ b (fun e => hn (by rw [e]))).trans (h2.block b hb hn)⟩⟩⟩
theorem RP.app3 {W2 : World} {g : Nat} {k n : Int} {dv cv : Value} {wr : World} (h : RP W2 g k n dv cv wr) (hg : g < W2.heap.size) (m : Nat) (o : Obj) {w3 : World} (hgr : ((wr.drewN m).alloc o).grownBy w3 cv.ownBlock) (hd : ∀ b, cv.ownBlock = some b → W2.heap.size ≤ b) : Blk w3 g 26 #[.int .i64 k, .int .i64 n, dv, cv] ∧ (∀ v, RP W2 g k n dv v (w3.setCell ⟨g, 3, none⟩ v)) := by
  obtain ⟨h1, h2⟩ := h.app hg (grown_alloc wr m o) hgr hd
  refine ⟨h1, fun v => ⟨h1.set_ 3 _, ⟨h2.os, h2.tape, h2.output, by have := h2.size; simpa using this, fun b hb hn => (Below.heap_setCell w3 ⟨g, 3, none⟩ _ b (fun e => hn (by rw [e]))).trans (h2.block b hb hn)⟩⟩⟩
section
variable {P : Program} {ops : Array Oper} {Q : Exit → Act → World → Prop} {S : World → Prop} {a : Act} {w : World} {listed : Array Bool} {fuel : Nat}
/-- One of those that may come up: append onto a row of the call's own. -/
theorem rAppR {rs : List Nat} (i : Nat) {t e s bytes : Nat} (T : SlT P t e s bytes) (p q : Operand) (dst : Option Tmp) (hd : (ops[i]?).map (fun o => (o.op, o.dst)) = some (.call { callee := .builtin .append, args := #[p, q], argTypes := #[t, t] }, dst)) (hw : (ops[i]?).map (fun o => Region.wanted o (yielded ops a.tmps)) = some true)
    {base n m : Nat} {v x : Value} {xs news : List Value} (hv : a.eval p = v) (hown : w.ownsRow base e s v n xs) (hxv : a.eval q = x) (hx : Sn w s x m news)
    (h1 : ∀ u ∈ news, u.oneCell' = true) (h63 : n + m ≤ maxLen) (hbytes : (n + m) * bytes ≤ 140737488355328) (hbase : base ≤ w.heap.size)
    (h : ∀ v' w', w'.ownsRow base e s v' (n + m) (xs ++ news) → w.grownBy w' v.ownBlock → (v'.ownBlock = v.ownBlock ∨ v'.ownBlock = some w.heap.size) → S w' ∧ (S w' → wpAnyH P .any ops Q S fuel (listed.setIfInBounds i true) (a.put dst v') w')) (hs : AllReadyH P .any ops Q S fuel listed a w rs) : AllReadyH P .any ops Q S fuel listed a w (i :: rs) := by
  cases ho : ops[i]? with
  | none => rw [ho] at hd; cases hd
  | some o =>
    have hd0 := hd
    rw [ho] at hd0
    simp only [Option.map_some, Option.some.injEq, Prod.mk.injEq] at hd0
    obtain ⟨v', w', hrun, h2, h3, h4⟩ := run_append_sn (ty := o.type) T hown hx h1 h63 hbytes hbase
    obtain ⟨h5, h6⟩ := h v' w' h2 h3 h4
    obtain ⟨hop, hdst⟩ := hd0
    rw [ho] at hw
    simp only [Option.map_some, Option.some.injEq] at hw
    refine AllReadyH.cons ho (fun K hK => ?_) hs
    rw [if_pos hw]
    unfold Oper.wp execOp
    simp only [hop, resolve, invoke, builtin, Sem.run_bind, Sem.run_pure, Result.andThen_ok, List.map_toArray, List.map_cons, List.map_nil, hv, hxv, hrun]
    rw [Oper.upon_value, hdst]
    exact hK.out _ _ h5 h6
/-- One of those that may come up: it stores, and leaves w2. -/
theorem rSkipR {rs : List Nat} (i : Nat) (op : Op) (dst : Option Tmp) (w2 : World) (hd : (ops[i]?).map (fun o => (o.op, o.dst)) = some (op, dst)) (hw : (ops[i]?).map (fun o => Region.wanted o (yielded ops a.tmps)) = some true)
    (hrun : ∀ o : Oper, o.op = op → (execOp a.eval o).run P w = .ok .skip w2) (hS : S w2)
    (h : wpAnyH P .any ops Q S fuel (listed.setIfInBounds i true) (a.put dst undef) w2) (hs : AllReadyH P .any ops Q S fuel listed a w rs) : AllReadyH P .any ops Q S fuel listed a w (i :: rs) := by
  cases ho : ops[i]? with
  | none => rw [ho] at hd; cases hd
  | some o =>
    rw [ho] at hd hw
    simp only [Option.map_some, Option.some.injEq, Prod.mk.injEq] at hd hw
    obtain ⟨h2, h3⟩ := hd
    subst h3
    refine AllReadyH.cons ho (fun K hK => ?_) hs
    rw [if_pos hw]
    unfold Oper.wp
    rw [hrun o h2]
    exact hK.out _ _ hS (fun _ => h)
end
theorem sn_at {W : World} {A : Option Addr} {ca : Nat} {xs : List Bs} (h : Sn W 1 (.slice A xs.length ca) xs.length (strC xs)) (j : Nat) (hj : j < xs.length) : ∃ b off, A = some ⟨b, off, none⟩ ∧ W.cell? ⟨b, off + j, none⟩ = some (.string (SB xs[j])) := by
  obtain ⟨A1, cap1, hv, hc, hl, hx⟩ := h
  injection hv with e1 _ e3
  subst e1 e3
  obtain ⟨b, off, rfl, hcell⟩ := hx (by omega)
  exact ⟨b, off, rfl, hcell j _ (by simp [strC, hj])⟩
theorem RP.drewN {W2 : World} {g : Nat} {k n : Int} {dv cv : Value} {wr : World} (h : RP W2 g k n dv cv wr) (m : Nat) : RP W2 g k n dv cv (wr.drewN m) :=
  ⟨h.box.drewN m, ⟨h.gr.os, h.gr.tape, h.gr.output, h.gr.size, h.gr.block⟩⟩
theorem RP.alloc {W2 : World} {g : Nat} {k n : Int} {dv cv : Value} {wr : World} (h : RP W2 g k n dv cv wr) (_hg : g < W2.heap.size) (o : Obj) : RP W2 g k n dv cv (wr.alloc o) :=
  ⟨h.box.alloc o, ⟨h.gr.os, h.gr.tape, h.gr.output, by have := h.gr.size; simp; omega, fun b hb hn => (Below.heap_alloc wr o b (Nat.lt_of_lt_of_le hb h.gr.size)).trans (h.gr.block b hb hn)⟩⟩
/-- What holds between the operations of a round of the cuts. -/
def SR (we : World) (g : Nat) (k n : Int) (dv : Value) (w : World) : Prop := ∃ cv, RP we g k n dv cv w
/-- The value of a digit, by its number. -/
def dgN (z : Nat) : Nat := digV (UInt8.ofNat z)
theorem dgN_le (z : Nat) : dgN z ≤ 99 := by
  unfold dgN digV
  split
  · omega
  · split <;> omega
theorem dgN_any (z : Nat) (hz : z < 256) (w : World) : Calls Tryd.prog 27 #[.int .u8 (z : Int)] w fun e w' => e = .returned (.int .i64 (dgN z : Nat)) ∧ w' = w := digit_any z hz w
end Go.Proofs.YtmaifldiondchaaDoor
