/- Parts: slot.Fill. -/
import Derived.Test.YtpkcddnclifcpaaMF10
namespace Go.Proofs.Ytpkcddnclifcpaa
open Go.RowKit
attribute [local irreducible] wpQuiet wpAnyH
set_option linter.unusedSimpArgs false

theorem setCells_partM {w : World} {g : Nat} {t : TypeId} (pre mid post new : List Value) (hB : Blk w g t (pre ++ mid ++ post).toArray) (hl : mid.length = new.length) :
    Blk (w.setCells g pre.length new) g t (pre ++ new ++ post).toArray ∧ Off g w (w.setCells g pre.length new) ∧ (w.setCells g pre.length new).heap.size = w.heap.size := by
  have h1 := setCells_blk new pre.length w _ hB
  rw [part_eqM pre mid post new hl] at h1
  have h2 := (setCells_below (Nat.le_refl g) new pre.length w)
  exact ⟨h1, ⟨h2.1.os, h2.1.tape, h2.1.output, by omega, fun k _ hk => setCells_other hk new pre.length w⟩, h2.2⟩
theorem stPartM {P : Program} {ops : Array Oper} {rest : List Oper} {o : Oper} {a : Act} {w : World} {Q : Exit → Act → World → Prop} (ty : TypeId) (x y : Operand) (ho : o.op = .store ty x y) (hw : Region.wanted o (yielded ops a.tmps) = true)
    {g t : Nat} (pre mid post new : List Value) (hx : a.eval x = .pointer (some ⟨g, pre.length, none⟩)) (hy : a.eval y = .agg new.toArray) (hB : Blk w g t (pre ++ mid ++ post).toArray)
    (hi : (P.info? ty).map (·.size) = some new.length) (hl : mid.length = new.length) (h1 : ∀ u ∈ new, u.oneCell' = true)
    (h : ∀ w2, Blk w2 g t (pre ++ new ++ post).toArray → Off g w w2 → w2.heap.size = w.heap.size → wpList P ops Q rest (a.put o.dst undef) w2) :
    wpList P ops Q (o :: rest) a w :=
  wpList_step fun K hK => by
    rw [if_pos hw]
    refine wp_store_mid ty x y ho g pre.length new.toArray hx hy (there_blk hB (by simp; omega)) (by simpa using hi) (all_oneCell_toArray h1) ?_
    rw [List.toList_toArray]
    obtain ⟨h2, h3, h4⟩ := setCells_partM pre mid post new hB hl
    exact hK _ _ (h _ h2 h3 h4)

/-- Writes in a row, up to the first that is not done, and a sync. -/
def fillW : DiskD → Int → List (List Int) → Ans × DiskD
  | d, _, [] => (syncA d, syncS d)
  | d, a, s :: r => match writeA d a with | some x => (some x, writeD d a s) | none => fillW (writeD d a s) (a + 1) r
def fillR (d : DiskD) (f z : Int) (g : Nat) (l : List (List Int × Int)) : Ans × DiskD :=
  if room z < l.length then (some (13, none), d) else if l.all rightE then fillW d (f + 1) (l.map (entRec g)) else (some (15, none), d)
/-- The records behind k rounds. -/
def recsAt (g : Nat) (l : List (List Int × Int)) (k : Nat) : List Value := ((l.take k).map (entRec g) ++ List.replicate (l.length - k) zsec).flatMap u8s
theorem recsAt_zero (g : Nat) (l : List (List Int × Int)) : recsAt g l 0 = (List.replicate l.length zsec).flatMap u8s := by simp [recsAt]
theorem recsAt_all (g : Nat) (l : List (List Int × Int)) : recsAt g l l.length = (l.map (entRec g)).flatMap u8s := by simp [recsAt]
theorem flat64 (L : List (List Int)) (h : ∀ s ∈ L, Sec s) : (L.flatMap u8s).length = L.length * 64 := by
  induction L with
  | nil => rfl
  | cons s L ih =>
    rw [List.flatMap_cons, List.length_append, ih fun x hx => h x (by simp [hx]), sec_length (h s (by simp)), List.length_cons]
    omega
theorem recs_split (g : Nat) (l : List (List Int × Int)) (hl : ∀ q ∈ l, EntOk q) (k : Nat) (hk : k < l.length) : ∃ pre post, recsAt g l k = pre ++ u8s zsec ++ post ∧ recsAt g l (k + 1) = pre ++ u8s (entRec g l[k]) ++ post ∧ pre.length = k * 64 := by
  refine ⟨((l.take k).map (entRec g)).flatMap u8s, (List.replicate (l.length - (k + 1)) zsec).flatMap u8s, ?_, ?_, ?_⟩
  · unfold recsAt
    rw [show l.length - k = (l.length - (k + 1)) + 1 by omega, List.replicate_succ, List.flatMap_append, List.flatMap_cons, List.append_assoc]
  · unfold recsAt
    rw [List.take_succ_eq_append_getElem hk, List.map_append, List.flatMap_append, List.flatMap_append]
    simp
  · rw [flat64 _ (fun s hs => by
      obtain ⟨q, hq, rfl⟩ := List.mem_map.1 hs
      exact entRec_sec g (hl q (List.mem_of_mem_take hq)))]
    rw [List.length_map, List.length_take, Nat.min_eq_left (by omega)]
theorem ent_row {w : World} {A : Option Addr} {cap : Nat} {l : List (List Int × Int)} (h : Sn w 33 (.slice A l.length cap) l.length (l.flatMap entP)) (hok : ∀ q ∈ l, EntOk q) (k : Nat) (hk : k < l.length) :
    ∃ b off, A = some ⟨b, off, none⟩ ∧ w.rangeAt b (off + k * 33) (entP l[k]) := by
  obtain ⟨b, off, rfl, hr⟩ := h.range k hk
  rw [flatMap_pieceM entP 33 l (fun q hq => entP_length q (hok q hq)) k hk] at hr
  exact ⟨b, off, rfl, hr⟩
theorem fillW_cons (d : DiskD) (a : Int) (L : List (List Int)) (k : Nat) (hk : k < L.length) : fillW d a (L.drop k) = match writeA d a with | some x => (some x, writeD d a L[k]) | none => fillW (writeD d a L[k]) (a + 1) (L.drop (k + 1)) := by
  rw [List.drop_eq_getElem_cons hk]; rfl
end Go.Proofs.Ytpkcddnclifcpaa
