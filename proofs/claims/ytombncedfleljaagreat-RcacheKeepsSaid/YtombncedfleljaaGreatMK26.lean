/- Parts: Plain: what SlotTorn's calls come to. | Plain: bounds that the disk's operations keep. | reclog: Rewrite. | reclog: a log that is not there. | The codes of the answers of the disk, the slot and the log lie within int. Plain. | append onto a row of the call's own: the old slice reads on as it did. A slice literal of one row. No program is named here. | rcache: what a cache's memory holds; what an operation leaves as it was. | rcache: the index told by its list; the small functions of a cache. -/
import Derived.Test.YtombncedfleljaaGreatMK22
import Derived.Test.YtombncedfleljaaGreatMK17
import Derived.Test.YtombncedfleljaaGreatMK18
import Derived.Test.YtombncedfleljaaGreatMK25
import Derived.Test.YtombncedfleljaaGreatMK8
import Derived.Test.YtombncedfleljaaGreatMK5
import Derived.Test.YtombncedfleljaaGreatMK2
import Derived.Test.YtombncedfleljaaGreatMK7
namespace Go.Proofs.YtombncedfleljaaGreat
open Go.RowKit
attribute [local irreducible] wpQuiet wpAnyH
set_option linter.unusedSimpArgs false

/-- Writes of some sectors, one behind the other. -/
def wrs : Int → List (List Int) → List (Int × List Int)
  | _, [] => []
  | a, s :: L => (a, s) :: wrs (a + 1) L
theorem wrs_length : ∀ (L : List (List Int)) (a : Int), (wrs a L).length = L.length
  | [], _ => rfl
  | _ :: L, a => by rw [wrs, List.length_cons, wrs_length L, List.length_cons]
def setAll (sec : List (List Int)) (l : List (Int × List Int)) : List (List Int) := l.foldl (fun s p => s.set p.1.toNat p.2) sec
theorem setAll_append (sec : List (List Int)) (l m : List (Int × List Int)) : setAll sec (l ++ m) = setAll (setAll sec l) m := by unfold setAll; rw [List.foldl_append]
theorem setAll_length (l : List (Int × List Int)) : ∀ sec : List (List Int), (setAll sec l).length = sec.length := by
  induction l with
  | nil => intro sec; rfl
  | cons p l ih => intro sec; rw [setAll, List.foldl_cons]; exact (ih _).trans (by simp)
theorem sync_set (r : List (List Int)) (l : List (Int × List Int)) : ∀ j, j ≤ l.length → syncN r l j = setAll r (l.take j)
  | 0, _ => by simp [syncN, setAll]
  | j + 1, h => by
    have hlt : j < l.length := by omega
    rw [syncN, sync_set r l j (by omega), List.take_succ_eq_append_getElem hlt, setAll_append]
    simp [setAll, hlt]
theorem sync_all (r : List (List Int)) (l : List (Int × List Int)) : syncN r l l.length = setAll r l := by rw [sync_set r l _ (Nat.le_refl _), List.take_length]
/-- Sectors that are written one behind the other lie one behind the other. -/
theorem set_run : ∀ (L : List (List Int)) (a : Int) (sec : List (List Int)), 0 ≤ a → a.toNat + L.length ≤ sec.length → setAll sec (wrs a L) = sec.take a.toNat ++ L ++ sec.drop (a.toNat + L.length)
  | [], a, sec, _, _ => by simp [wrs, setAll]
  | s :: L, a, sec, h0, h => by
    rw [List.length_cons] at h
    have hlt : a.toNat < sec.length := by omega
    have ha : (a + 1).toNat = a.toNat + 1 := by omega
    rw [wrs, show setAll sec ((a, s) :: wrs (a + 1) L) = setAll (sec.set a.toNat s) (wrs (a + 1) L) from rfl]
    rw [set_run L (a + 1) _ (by omega) (by rw [List.length_set]; omega), ha, List.length_cons]
    rw [show (sec.set a.toNat s).take (a.toNat + 1) = sec.take a.toNat ++ [s] by
      rw [List.take_succ_eq_append_getElem (by rw [List.length_set]; exact hlt), List.take_set_of_le (Nat.le_refl _), List.getElem_set_self]]
    rw [List.drop_set_of_lt (by omega), List.append_assoc, List.append_assoc, List.append_assoc, show a.toNat + 1 + L.length = a.toNat + (L.length + 1) by omega]
    rfl
/-- A fill of a disk without plans is done. -/
theorem fillW_q : ∀ (L : List (List Int)) (sec : List (List Int)) (opn : List (Int × List Int)) (st r : Nat) (a : Int), 0 ≤ a → a.toNat + L.length ≤ sec.length → st ≤ r →
    ∃ r', r' ≤ r + 2 * L.length + 1 ∧ fillW (qD sec opn st r) a L = (none, qD (setAll sec (opn ++ wrs a L)) [] (st + L.length + 1) r')
  | [], sec, opn, st, r, a, h0, h, hr => by
    refine ⟨max r (st + 1), by simp; omega, ?_⟩
    rw [fillW, syncA_q, syncS_q, wrs, List.append_nil, sync_all]
    rfl
  | s :: L, sec, opn, st, r, a, h0, h, hr => by
    rw [List.length_cons] at h
    obtain ⟨r', hr', hf⟩ := fillW_q L sec (opn ++ [(a, s)]) (st + 1) (max r (st + 1) + 1) (a + 1) (by omega) (by omega) (by omega)
    refine ⟨r', by rw [List.length_cons]; omega, ?_⟩
    rw [fillW, writeA_q h0 (by omega), writeD_q h0 (by omega)]
    show fillW _ _ _ = _
    rw [hf, wrs, List.append_assoc, List.length_cons, show st + 1 + L.length + 1 = st + (L.length + 1) + 1 by omega]
    rfl
theorem crash_one (sec : List (List Int)) (a : Int) (s : List Int) (c : Int) (h : a.toNat < sec.length) : crashL sec [(a, s)] [c] = sec.set a.toNat (tearL sec[a.toNat] s c) := by
  unfold crashL
  simp [tornN, h]
theorem scan_zeros (g : Nat) (es : List Ent2) : ∀ k, scanL (some g, es) (List.replicate k zsec) = (some g, es)
  | 0 => rfl
  | k + 1 => by
    rw [List.replicate_succ]
    exact scan_stop (fun g' e h => by rw [prsE_zsec] at h; cases h)
theorem entRec_len {q : Ent2} (hq : EntOk q) : (q.1 ++ beB 8 q.2.toNat).length ≤ 54 := by rw [List.length_append, hq.dig.len, beB_length]; omega

/-- A put that crashes in its write or in its sync. -/
theorem put_crash (sec : List (List Int)) (st r : Nat) (p : Nat) (g : Nat) (q : Ent2) (hq : rightE q = true) (k : Nat) (cut : Int) (hk : k = 1 ∨ k = 2) (hp1 : 1 ≤ p) (hp : p < 5) (hs : sec.length = 5) :
    putA (planC (qD sec [] st r) k [cut]) 0 5 p g q = some (12, none) ∧ (putD (planC (qD sec [] st r) k [cut]) 0 5 p g q).down = true ∧ (putD (planC (qD sec [] st r) k [cut]) 0 5 p g q).opn = [] ∧
      (putD (planC (qD sec [] st r) k [cut]) 0 5 p g q).sec = sec.set p (tearL (sec.getD p []) (entRec g q) cut) := by
  have hpl : p < sec.length := by omega
  have hR : ∀ d : DiskD, putA d 0 5 p g q = wsA d p (entRec g q) ∧ putD d 0 5 p g q = wsD d p (entRec g q) := fun d => by
    have h1 : ¬ ((p : Int) < 1) := by omega
    have h2 : ¬ (room 5 < (p : Int)) := by rw [show room 5 = 4 from rfl]; omega
    unfold putA putD
    rw [if_neg h1, if_neg h1, if_neg h2, if_neg h2, if_pos hq, if_pos hq, Int.zero_add]
    exact ⟨rfl, rfl⟩
  rw [(hR _).1, (hR _).2]
  obtain ⟨d, hd⟩ : ∃ d, d = planC (qD sec [] st r) k [cut] := ⟨_, rfl⟩
  have e1 : d.sec = sec ∧ d.opn = [] ∧ d.down = false ∧ d.steps = st ∧ (∀ x, d.fl x = false) ∧ ∀ x, d.cr x = if x = (st : Int) + k then some [cut] else none := by
    rw [hd]
    unfold planC
    rw [if_neg (by omega)]
    exact ⟨rfl, rfl, rfl, rfl, fun _ => rfl, fun _ => rfl⟩
  rw [← hd]
  obtain ⟨e1, e2, e3, e4, e5, e6⟩ := e1
  clear hd hR
  have hh : hasB d p = true := by unfold hasB; simp [e1, hpl]
  have hg : sec.getD p [] = sec[p] := by simp [hpl]
  rw [hg]
  rcases hk with rfl | rfl
  · have hx : d.cr ((d.steps + 1 : Nat) : Int) = some [cut] := by rw [e6, e4, if_pos (by omega)]
    have ho : outS d = 2 := by unfold outS; rw [hx]; rfl
    have hc : cutsS d = [cut] := by unfold cutsS; rw [hx]; rfl
    have hA : writeA d p = some (12, none) := by unfold writeA; rw [e3, ho]; rfl
    have hD : writeD d p (entRec g q) = crashD (addD (stepped d) p (entRec g q)) [cut] := by
      unfold writeD
      rw [e3, ho, hc]
      unfold addIf
      rw [show hasB (stepped d) p = hasB d p from rfl, hh]
      rfl
    unfold wsA wsD
    rw [hA, hD]
    refine ⟨rfl, rfl, rfl, ?_⟩
    show crashL (stepped d).sec ((stepped d).opn ++ [((p : Int), entRec g q)]) [cut] = _
    rw [show (stepped d).sec = sec from e1, show (stepped d).opn = [] from e2, List.nil_append, crash_one _ _ _ _ (by simpa using hpl)]
    rfl
  · have hx : d.cr ((d.steps + 1 : Nat) : Int) = none := by rw [e6, e4, if_neg (by omega)]
    have ho : outS d = 0 := by unfold outS; rw [hx, e5]; rfl
    have hA : writeA d p = none := by unfold writeA; rw [e3, ho, hh]; rfl
    have hD : writeD d p (entRec g q) = addD (stepped d) p (entRec g q) := by
      unfold writeD
      rw [e3, ho]
      unfold addIf
      rw [show hasB (stepped d) p = hasB d p from rfl, hh]
      rfl
    obtain ⟨d', hd'⟩ : ∃ d', d' = addD (stepped d) p (entRec g q) := ⟨_, rfl⟩
    have f1 : d'.sec = sec ∧ d'.opn = [((p : Int), entRec g q)] ∧ d'.down = false ∧ d'.cr ((d'.steps + 1 : Nat) : Int) = some [cut] := by
      rw [hd']
      refine ⟨e1, ?_, e3, ?_⟩
      · show d.opn ++ _ = _
        rw [e2]; rfl
      · show (if ((d.steps + 1 + 1 : Nat) : Int) = ((d.steps + 1 : Nat) : Int) then none else d.cr ((d.steps + 1 + 1 : Nat) : Int)) = _
        rw [if_neg (by omega), e6, e4, if_pos (by omega)]
    unfold wsA wsD
    rw [hA, hD, ← hd']
    obtain ⟨f1, f2, f3, f4⟩ := f1
    have ho' : outS d' = 2 := by unfold outS; rw [f4]; rfl
    have hc' : cutsS d' = [cut] := by unfold cutsS; rw [f4]; rfl
    show syncA d' = _ ∧ (syncS d').down = _ ∧ (syncS d').opn = _ ∧ (syncS d').sec = _
    have hS : syncS d' = crashD (stepped d') [cut] := by unfold syncS; rw [f3, ho', hc']; rfl
    rw [hS]
    refine ⟨by unfold syncA; rw [f3, ho']; rfl, rfl, rfl, ?_⟩
    show crashL (stepped d').sec (stepped d').opn [cut] = _
    rw [show (stepped d').sec = sec from f1, show (stepped d').opn = [((p : Int), entRec g q)] from f2, crash_one _ _ _ _ (by simpa using hpl)]
    rfl
end Go.Proofs.YtombncedfleljaaGreat
namespace Go.Proofs.YtombncedfleljaaGreat
open Go.RowKit
attribute [local irreducible] wpQuiet wpAnyH
set_option linter.unusedSimpArgs false

/-- A disk's bounds behind an operation that costs c. -/
def Bd (c : Nat) (d d' : DiskD) : Prop := d'.steps ≤ d'.room ∧ d'.room ≤ d.room + c ∧ d'.sec.length = d.sec.length
theorem Bd.mono {c c' : Nat} {d d' : DiskD} (h : Bd c d d') (hc : c ≤ c') : Bd c' d d' := ⟨h.1, by have := h.2.1; omega, h.2.2⟩
theorem Bd.trans {a b : Nat} {d d' d'' : DiskD} (h : Bd a d d') (k : Bd b d' d'') : Bd (a + b) d d'' := ⟨k.1, by have := h.2.1; have := k.2.1; omega, k.2.2.trans h.2.2⟩
theorem stepped_bd {d : DiskD} (h : d.steps ≤ d.room) : Bd 1 d (stepped d) := ⟨by show d.steps + 1 ≤ max d.room (d.steps + 1); omega, by show max d.room (d.steps + 1) ≤ d.room + 1; omega, rfl⟩
theorem addIf_bd {d : DiskD} (h : d.steps ≤ d.room) (a : Int) (s : List Int) : Bd 1 d (addIf d a s) := by
  unfold addIf
  split
  · exact ⟨by show d.steps ≤ d.room + 1; omega, Nat.le_refl _, rfl⟩
  · exact ⟨h, by omega, rfl⟩
theorem crashD_bd {d : DiskD} (h : d.steps ≤ d.room) (cl : List Int) : Bd 0 d (crashD d cl) := ⟨h, Nat.le_refl _, crashL_len _ _ _⟩
theorem writeD_bd {d : DiskD} (h : d.steps ≤ d.room) (a : Int) (s : List Int) : Bd 2 d (writeD d a s) := by
  have h1 := stepped_bd h
  have h2 := h1.trans (addIf_bd h1.1 a s)
  unfold writeD
  split
  · exact ⟨h, by omega, rfl⟩
  · split
    · exact h2.trans (crashD_bd h2.1 _)
    · split
      · exact h1.mono (by omega)
      · exact h2
theorem syncS_bd {d : DiskD} (h : d.steps ≤ d.room) : Bd 1 d (syncS d) := by
  have h1 := stepped_bd h
  unfold syncS
  split
  · exact ⟨h, by omega, rfl⟩
  · split
    · exact h1.trans (crashD_bd h1.1 _)
    · split
      · exact h1
      · exact ⟨h1.1, h1.2.1, syncN_len _ _ _⟩
theorem wsD_bd {d : DiskD} (h : d.steps ≤ d.room) (a : Int) (s : List Int) : Bd 3 d (wsD d a s) := by
  have h1 := writeD_bd h a s
  unfold wsD
  split
  · exact h1.mono (by omega)
  · exact h1.trans (syncS_bd h1.1)
theorem fillW_bd : ∀ (L : List (List Int)) (d : DiskD) (a : Int), d.steps ≤ d.room → Bd (2 * L.length + 1) d (fillW d a L).2
  | [], d, a, h => (syncS_bd h).mono (by simp)
  | s :: L, d, a, h => by
    have h1 := writeD_bd h a s
    unfold fillW
    split
    · exact h1.mono (by simp; omega)
    · exact (h1.trans (fillW_bd L _ _ h1.1)).mono (by simp; omega)
theorem fillR_bd {d : DiskD} (h : d.steps ≤ d.room) (f z : Int) (g : Nat) (l : List Ent2) : Bd (2 * l.length + 1) d (fillR d f z g l).2 := by
  unfold fillR
  split
  · exact ⟨h, by simp, rfl⟩
  · split
    · exact (fillW_bd _ _ _ h).mono (by simp)
    · exact ⟨h, by simp, rfl⟩
/-- A fill that succeeds. -/
theorem writeA_none {d : DiskD} {a : Int} (h : writeA d a = none) (s : List Int) : d.down = false ∧ hasB d a = true ∧ writeD d a s = addD (stepped d) a s := by
  unfold writeA at h
  cases hd : d.down with
  | true => rw [hd] at h; cases h
  | false =>
    rw [hd] at h
    simp only [Bool.false_eq_true, if_false] at h
    split at h
    · cases h
    · rename_i h2
      split at h
      · cases h
      · rename_i h1
        split at h
        · rename_i hb
          refine ⟨rfl, hb, ?_⟩
          unfold writeD
          rw [hd, if_neg h2, if_neg h1]
          unfold addIf
          rw [show hasB (stepped d) a = hasB d a from rfl, hb]
          rfl
        · cases h
theorem syncA_none {d : DiskD} (h : syncA d = none) : d.down = false ∧ syncS d = syncD (stepped d) := by
  unfold syncA at h
  cases hd : d.down with
  | true => rw [hd] at h; cases h
  | false =>
    rw [hd] at h
    simp only [Bool.false_eq_true, if_false] at h
    split at h
    · cases h
    · rename_i h2
      split at h
      · cases h
      · rename_i h1
        refine ⟨rfl, ?_⟩
        unfold syncS
        rw [hd, if_neg h2, if_neg h1]
        rfl
theorem fillW_none : ∀ (L : List (List Int)) (d d' : DiskD) (a : Int), fillW d a L = (none, d') → d'.down = false ∧ d'.opn = [] ∧ d'.sec = setAll d.sec (d.opn ++ wrs a L)
  | [], d, d', a, h => by
    unfold fillW at h
    injection h with h1 h2
    obtain ⟨hd, hs⟩ := syncA_none h1
    rw [← h2, hs, wrs, List.append_nil]
    exact ⟨hd, rfl, sync_all _ _⟩
  | s :: L, d, d', a, h => by
    unfold fillW at h
    split at h
    · cases h
    · rename_i hw
      obtain ⟨hd, _, hW⟩ := writeA_none hw s
      obtain ⟨h1, h2, h3⟩ := fillW_none L _ d' _ h
      refine ⟨h1, h2, ?_⟩
      rw [h3, hW, wrs]
      show setAll d.sec (d.opn ++ [(a, s)] ++ wrs (a + 1) L) = _
      rw [List.append_assoc]
      rfl
theorem wsA_none {d : DiskD} {a : Int} {s : List Int} (h : wsA d a s = none) : (wsD d a s).down = false ∧ (wsD d a s).opn = [] ∧ (wsD d a s).sec = setAll d.sec (d.opn ++ [(a, s)]) := by
  unfold wsA at h
  unfold wsD
  split at h
  · cases h
  · rename_i hw
    obtain ⟨hd, _, hW⟩ := writeA_none hw s
    obtain ⟨h1, h2⟩ := syncA_none h
    show (syncS (writeD d a s)).down = _ ∧ (syncS (writeD d a s)).opn = _ ∧ (syncS (writeD d a s)).sec = _
    rw [h2, hW]
    exact ⟨hd, rfl, sync_all _ _⟩

end Go.Proofs.YtombncedfleljaaGreat
namespace Go.Proofs.YtombncedfleljaaGreat
open Go.RowKit
attribute [local irreducible] wpQuiet wpAnyH
set_option linter.unusedSimpArgs false

def rewW (fa : Ans) (fd : DiskD) (L : LogD) (wa : Ans) (wd : DiskD) (so g n : Nat) : Ans × DiskD × LogD := match fa with
  | some x => (some x, fd, noteL L x.1)
  | none => match wa with
    | some x => (some x, wd, noteL L x.1)
    | none => (none, wd, { L with side := so, gen := g, cnt := n })
def rewS (d : DiskD) (h : Nat) (L : LogD) (qs : List Ent2) (g : Nat) : Ans × DiskD × LogD :=
  rewW (fillR d (sFrom h (1 - L.side)) h g qs).1 (fillR d (sFrom h (1 - L.side)) h g qs).2 L (wsA (fillR d (sFrom h (1 - L.side)) h g qs).2 (sFrom h (1 - L.side)) (rec g toll)) (wsD (fillR d (sFrom h (1 - L.side)) h g qs).2 (sFrom h (1 - L.side)) (rec g toll)) (1 - L.side) g qs.length
def rewR (d : DiskD) (h : Nat) (L : LogD) (qs : List Ent2) : Ans × DiskD × LogD := if L.brk then (some (11, none), d, L) else if max L.last L.gen = 4294967295 then (some (13, none), d, L) else rewS d h L qs (max L.last L.gen + 1)
set_option maxRecDepth 100000 in
set_option maxHeartbeats 8000000 in
theorem log_rewrite (qs : List Ent2) (A : Option Addr) (cap : Nat) (w : World) (m : DiskM) (d : DiskD) (gl h : Nat) (L : LogD) (k : LK w m d gl h L) (hs : Sn w 33 (.slice A qs.length cap) qs.length (qs.flatMap entP)) (hok : ∀ q ∈ qs, EntOk q) (hln : qs.length ≤ 10000) (hr : d.room + 30000 ≤ 100000) :
    Calls Tryz.prog 36 #[.pointer (some ⟨gl, 0, none⟩), .slice A qs.length cap] w fun e w' => e = .returned (valE (rewR d h L qs).1) ∧ ∃ m', LK w' m' (rewR d h L qs).2.1 gl h (rewR d h L qs).2.2 ∧ LT gl w m w' m' := by
  have hh := LogOk.h_le k
  have HK := Lib.hid k
  have HS := Lib.hid hs
  have HOK := Lib.hid hok
  have HB : Hid (Blk w gl 109 (logC m.g h L)) := Lib.hid k.blk
  obtain ⟨c0, c5, c6, c7, c8, c9⟩ := k.cells
  have hgl := k.blk.lt
  clear hs hok
  cases hb : L.brk with
  | true =>
    have HV : Hid (rewR d h L qs = (some (11, none), d, L)) := Lib.hid (by unfold rewR; rw [if_pos hb])
    rw [hb] at c9
    clear hb k
    go_enter Tryz.func36, Tryz.ntmps36
    go_wp2_with fail
    go_ret
    exact ⟨by rw [HV.out]; rfl, m, by rw [HV.out]; exact HK.out, LT.of_below (Below.refl _ _)⟩
  | false =>
    rw [hb] at c9
    obtain ⟨gm, hgm⟩ : ∃ gm, gm = max L.last L.gen := ⟨_, rfl⟩
    have hgi : max (L.last : Int) L.gen = gm := by omega
    have HGI := Lib.hid hgi
    have HM4 : Hid (gm < 4294967296) := Lib.hid (by have h1 := k.ok.last; have h2 := k.ok.gen; omega)
    have HR1 : Hid (rewR d h L qs = if gm = 4294967295 then (some (13, none), d, L) else rewS d h L qs (gm + 1)) := Lib.hid (by unfold rewR; rw [hb, hgm]; rfl)
    have hsd := k.ok.side
    have HC : Hid (∀ W, Blk W gl 109 (logC m.g h L) → W.cell? ⟨gl, 6, none⟩ = some (.int .u32 L.last) ∧ W.cell? ⟨gl, 7, none⟩ = some (.int .u32 L.gen)) := Lib.hid (fun W hk => ⟨(hk.cell 6).trans rfl, (hk.cell 7).trans rfl⟩)
    clear hb hgm k hgi
    go_enter Tryz.func36, Tryz.ntmps36
    go_upto_region 5 with fail
    obtain ⟨wS, hwS⟩ : ∃ wS, wS = w.drew := ⟨_, rfl⟩
    have HDS : Hid (Below w.heap.size w wS) := Lib.hid (by rw [hwS]; exact (Below.refl _ _).drew)
    refine kZ (n := 10) (fun W => Blk W gl 109 (logC m.g h L)) (by rw [← hwS]; exact HB.out.keep HDS.out) (h := fun hH => ?_)
    rw [← hwS] at hH ⊢
    clear hwS
    refine kM 0 (some 17) (.pointer (some ⟨gl, 0, none⟩)) (h := ?_)
    simp only [p1, p2, p3, p4, p5]
    refine kT 1 (some 18) (.pointer (some ⟨gl, 0, none⟩)) (h := ?_)
    simp only [p1, p2, p3, p4, p5]
    refine kT 2 (some 19) (.pointer (some ⟨gl, 6, none⟩)) (h := ?_)
    simp only [p1, p2, p3, p4, p5]
    refine kC 3 (some 20) (v := .int .u32 L.last) (fun _ hX => (HC.out _ hX).1) (h := ?_)
    simp only [p1, p2, p3, p4, p5]
    refine kM 4 (some 21) (.pointer (some ⟨gl, 0, none⟩)) (h := ?_)
    simp only [p1, p2, p3, p4, p5]
    refine kT 5 (some 22) (.pointer (some ⟨gl, 0, none⟩)) (h := ?_)
    simp only [p1, p2, p3, p4, p5]
    refine kT 6 (some 23) (.pointer (some ⟨gl, 7, none⟩)) (h := ?_)
    simp only [p1, p2, p3, p4, p5]
    refine kC 7 (some 24) (v := .int .u32 L.gen) (fun _ hX => (HC.out _ hX).2) (h := ?_)
    simp only [p1, p2, p3, p4, p5]
    refine kT 8 (some 25) (.int .u32 gm) (hy := fun W hW => by unfold execOp; rw [← HGI.out]; go_simp) (h := ?_)
    simp only [p1, p2, p3, p4, p5]
    refine kT 9 (some 5) (.int .u32 gm) (h := ?_)
    simp only [p1, p2, p3, p4, p5]
    refine kE (h := ?_)
    obtain ⟨so, hso⟩ : ∃ so, so = 1 - L.side := ⟨_, rfl⟩
    have hsi : (1 : Int) - L.side = so := by omega
    have HSI := Lib.hid hsi
    have hso2 : so < 2 := by omega
    have hsdi : (L.side : Int) < 2 := by omega
    have hsdi0 : (0 : Int) ≤ L.side := by omega
    have HWS : Hid (Below w.heap.size w wS) := HDS
    have HKS : Hid (LK wS m d gl h L) := Lib.hid (HK.out.keep HDS.out)
    have HST0 := Lib.hid (HS.out.below HDS.out)
    have d5 : wS.cell? ⟨gl, 5, none⟩ = some (.int .i64 L.side) := (hH.cell 5).trans rfl
    have HBS : Hid (Blk wS gl 109 (logC m.g h L)) := Lib.hid hH
    have hgS : gl < wS.heap.size := hH.lt
    clear c0 c5 c6 c7 c8 c9 hsi hH
    rcases Nat.lt_or_ge gm 4294967295 with hmx | hmx
    · have t9 : ((gm : Int) == 4294967295) = false := by rw [beq_eq_false_iff_ne]; omega
      obtain ⟨gn, hgn⟩ : ∃ gn, gn = gm + 1 := ⟨_, rfl⟩
      have HGN : Hid ((gm : Int) + 1 = gn) := Lib.hid (by omega)
      have HG4 : Hid (gn < 4294967296) := Lib.hid (by omega)
      have HM5 : Hid ((gm : Int) < 4294967295) := Lib.hid (by omega)
      have HV : Hid (rewR d h L qs = rewS d h L qs gn) := Lib.hid (by rw [HR1.out, if_neg (by omega), hgn])
      clear hmx hgn
      go_upto_region 8 with fail
      have hgm5 := HM5.out
      go_upto_region 10 with fail
      rw [HGN.out, HSI.out]
      obtain ⟨sf, hsf⟩ : ∃ sf, sf = sFrom h so := ⟨_, rfl⟩
      have HSF : Hid ((sf : Int) ≤ 100000 ∧ 0 ≤ (sf : Int)) := Lib.hid (by rw [hsf]; exact ⟨(ofs_lt hh).2, (ofs_lt (h := h) (s := so) hh).1⟩)
      have HSL : Hid (∀ W, Blk W gl 109 (logC m.g h L) → W.rangeAt gl (1 + so * 2) [.int .i64 sf, .int .i64 h]) := Lib.hid (fun W hk => by rw [hsf]; exact blk_slot hk so hso2)
      have hso0 : (0 : Int) ≤ so := by omega
      have hso1 : (so : Int) < 2 := by omega
      obtain ⟨fa, hfa⟩ : ∃ fa, fa = (fillR d sf h gn qs).1 := ⟨_, rfl⟩
      obtain ⟨fd, hfd⟩ : ∃ fd, fd = (fillR d sf h gn qs).2 := ⟨_, rfl⟩
      have HW2 : Hid (rewR d h L qs = rewW fa fd L (wsA fd sf (rec gn toll)) (wsD fd sf (rec gn toll)) so gn qs.length) := Lib.hid (by rw [HV.out, hfa, hfd, hsf, hso]; rfl)
      have HFD : Hid (Bd (2 * qs.length + 1) d fd) := Lib.hid (by rw [hfd]; exact fillR_bd HK.out.dk.ok.st _ _ _ _)
      have HH2 : Hid (h ≤ 2048) := Lib.hid (by have h1 := HK.out.ok.half; have h2 := HK.out.dk.ok.few; omega)
      have HAP := Lib.hid HK.out.ap
      have HFC := Lib.hid (fun W (hk : DK W m d) (hs : Sn W 33 (.slice A qs.length cap) qs.length (qs.flatMap entP)) => slot_fill sf h gn qs A cap W m d hk hs HOK.out ⟨HSF.out.2, HSF.out.1⟩ ⟨⟨by omega, by omega⟩, by have := HH2.out; omega⟩ HG4.out (by omega) (by omega))
      rw [← hfa, ← hfd] at HFC
      clear hfa hfd hsf hso hgm5 d5 t9
      obtain ⟨wT, hwT⟩ : ∃ wT, wT = wS.drew := ⟨_, rfl⟩
      have HDT : Hid (Below wS.heap.size wS wT) := Lib.hid (by rw [hwT]; exact (Below.refl _ _).drew)
      have HKT := Lib.hid (HKS.out.keep HDT.out)
      have HBT : Hid (Blk wT gl 109 (logC m.g h L)) := Lib.hid HKT.out.blk
      have HST := Lib.hid (HST0.out.below HDT.out)
      refine kZ (n := 14) (fun W => Blk W gl 109 (logC m.g h L)) (by rw [← hwT]; exact HBT.out) (h := fun hH => ?_)
      rw [← hwT] at hH ⊢
      clear hwT
      refine kM 0 (some 36) (.pointer (some ⟨gl, 0, none⟩)) (h := ?_)
      simp only [p1, p2, p3, p4, p5]
      refine kT 1 (some 37) (.pointer (some ⟨gl, 0, none⟩)) (h := ?_)
      simp only [p1, p2, p3, p4, p5]
      refine kT 2 (some 38) (.pointer (some ⟨gl, 0, none⟩)) (h := ?_)
      simp only [p1, p2, p3, p4, p5]
      refine kC 3 (some 39) (v := .pointer (some ⟨m.g, 0, none⟩)) (fun _ hX => (hX.cell 0).trans rfl) (h := ?_)
      simp only [p1, p2, p3, p4, p5]
      refine kM 4 (some 40) (.pointer (some ⟨gl, 0, none⟩)) (h := ?_)
      simp only [p1, p2, p3, p4, p5]
      refine kM 5 (some 41) (.int .i64 so) (h := ?_)
      simp only [p1, p2, p3, p4, p5]
      refine kT 6 (some 42) (.pointer (some ⟨gl, 0, none⟩)) (h := ?_)
      simp only [p1, p2, p3, p4, p5]
      refine kT 7 (some 43) (.pointer (some ⟨gl, 1, none⟩)) (h := ?_)
      simp only [p1, p2, p3, p4, p5]
      refine kT 8 (some 44) (.pointer (some ⟨gl, 1 + so * 2, none⟩)) (h := ?_)
      simp only [p1, p2, p3, p4, p5]
      refine kL 9 (some 45) (cs := [.int .i64 sf, .int .i64 h]) (fun _ hX => HSL.out _ hX) (rfl) (h := ?_)
      simp only [p1, p2, p3, p4, p5]
      refine kM 10 (some 46) (.int .u32 gn) (h := ?_)
      simp only [p1, p2, p3, p4, p5]
      refine kM 11 (some 47) (.slice A qs.length cap) (h := ?_)
      simp only [p1, p2, p3, p4, p5]
      refine kF 12 (some 48) ((HFC.out wT HKT.out.dk HST.out).mono ?_)
      rintro e w5 ⟨rfl, m5, hk5, ht5⟩
      refine ⟨_, rfl, (ht5.off hH.lt HAP.out.1).trans hH, fun hH5 => ?_⟩
      simp only [p1, p2, p3, p4, p5]
      refine kT 13 (some 7) (valE fa) (h := ?_)
      simp only [p1, p2, p3, p4, p5]
      refine kE (h := ?_)
      have HKX : Hid (LK w5 m5 fd gl h L) := Lib.hid (HKT.out.disk hk5 ht5 HFD.out.2.2)
      have HTX : Hid (LT gl w m w5 m5) := Lib.hid ((LT.of_below (bstep HWS.out HDT.out)).trans (LT.of_dt ht5))
      have HMG : Hid (m5.g = m.g) := Lib.hid ht5.g
      clear hk5 ht5 hH hH5
      cases fa with
      | some x =>
        obtain ⟨t, u, hv⟩ := valE_form x
        have HN := Lib.hid (log_note (some x) w5 m5 fd gl h L HKX.out)
        have HVE := Lib.hid hv
        rw [hv] at HN ⊢
        have hne := neq_nil t u
        clear hv
        go_wp2_with fail
        refine HN.out.mono ?_
        rintro e w6 ⟨rfl, hk6, ht6⟩
        have HK6 := Lib.hid hk6
        have HT6 := Lib.hid (HTX.out.trans ht6)
        clear hk6 ht6
        go_wp2_with fail
        go_ret
        exact ⟨by rw [HW2.out]; show _ = Ending.returned (valE (some x)); rw [HVE.out]; rfl, m5, by rw [HW2.out]; exact HK6.out, HT6.out⟩
      | none =>
        have hv : valE none = .nilIface := rfl
        have hnn := eq_nilL
        rw [hv]
        clear hv
        have hg5 : gl < w5.heap.size := HKX.out.blk.lt
        go_upto_region 13 with fail
        obtain ⟨wa, hwa⟩ : ∃ wa, wa = wsA fd sf (rec gn toll) := ⟨_, rfl⟩
        obtain ⟨wd, hwd⟩ : ∃ wd, wd = wsD fd sf (rec gn toll) := ⟨_, rfl⟩
        have HW3 : Hid (rewR d h L qs = rewW none fd L wa wd so gn qs.length) := Lib.hid (by rw [HW2.out, hwa, hwd])
        have HWL : Hid (wd.sec.length = fd.sec.length) := Lib.hid (by rw [hwd]; exact wsD_len _ _ _)
        have HCC := Lib.hid (fun W (hk : DK W m5 fd) => slot_commit sf h gn W m5 fd hk ⟨by have := HSF.out.2; omega, by have := HSF.out.1; omega⟩ HG4.out (by have := HFD.out.2.1; omega))
        rw [← hwa, ← hwd] at HCC
        have HBX : Hid (Blk w5 gl 109 (logC m5.g h L)) := Lib.hid HKX.out.blk
        have HSM : Hid (∀ W, Blk W gl 109 (logC m5.g h L) → W.rangeAt gl (1 + so * 2) [.int .i64 sf, .int .i64 h]) := Lib.hid (fun W hk => HSL.out W (by rw [← HMG.out]; exact hk))
        have HAX := Lib.hid HKX.out.ap
        clear hwa hwd
        obtain ⟨wU, hwU⟩ : ∃ wU, wU = w5.drew := ⟨_, rfl⟩
        have HDU : Hid (Below w5.heap.size w5 wU) := Lib.hid (by rw [hwU]; exact (Below.refl _ _).drew)
        have HKU := Lib.hid (HKX.out.keep HDU.out)
        have HBU : Hid (Blk wU gl 109 (logC m5.g h L)) := Lib.hid HKU.out.blk
        refine kZ (n := 13) (fun W => Blk W gl 109 (logC m5.g h L)) (by rw [← hwU]; exact HBU.out) (h := fun hH => ?_)
        rw [← hwU] at hH ⊢
        clear hwU
        refine kM 0 (some 54) (.pointer (some ⟨gl, 0, none⟩)) (h := ?_)
        simp only [p1, p2, p3, p4, p5]
        refine kT 1 (some 55) (.pointer (some ⟨gl, 0, none⟩)) (h := ?_)
        simp only [p1, p2, p3, p4, p5]
        refine kT 2 (some 56) (.pointer (some ⟨gl, 0, none⟩)) (h := ?_)
        simp only [p1, p2, p3, p4, p5]
        refine kC 3 (some 57) (v := .pointer (some ⟨m5.g, 0, none⟩)) (fun _ hX => (hX.cell 0).trans rfl) (h := ?_)
        simp only [p1, p2, p3, p4, p5]
        refine kM 4 (some 58) (.pointer (some ⟨gl, 0, none⟩)) (h := ?_)
        simp only [p1, p2, p3, p4, p5]
        refine kM 5 (some 59) (.int .i64 so) (h := ?_)
        simp only [p1, p2, p3, p4, p5]
        refine kT 6 (some 60) (.pointer (some ⟨gl, 0, none⟩)) (h := ?_)
        simp only [p1, p2, p3, p4, p5]
        refine kT 7 (some 61) (.pointer (some ⟨gl, 1, none⟩)) (h := ?_)
        simp only [p1, p2, p3, p4, p5]
        refine kT 8 (some 62) (.pointer (some ⟨gl, 1 + so * 2, none⟩)) (h := ?_)
        simp only [p1, p2, p3, p4, p5]
        refine kL 9 (some 63) (cs := [.int .i64 sf, .int .i64 h]) (fun _ hX => HSM.out _ hX) (rfl) (h := ?_)
        simp only [p1, p2, p3, p4, p5]
        refine kM 10 (some 64) (.int .u32 gn) (h := ?_)
        simp only [p1, p2, p3, p4, p5]
        refine kF 11 (some 65) ((HCC.out wU HKU.out.dk).mono ?_)
        rintro e w9 ⟨rfl, m9, hk9, ht9⟩
        refine ⟨_, rfl, (ht9.off hH.lt HAX.out.1).trans hH, fun hH9 => ?_⟩
        simp only [p1, p2, p3, p4, p5]
        refine kT 12 (some 8) (valE wa) (h := ?_)
        simp only [p1, p2, p3, p4, p5]
        refine kE (h := ?_)
        have HKY : Hid (LK w9 m9 wd gl h L) := Lib.hid (HKU.out.disk hk9 ht9 HWL.out)
        have HTY : Hid (LT gl w m w9 m9) := Lib.hid ((HTX.out.trans (LT.of_below HDU.out)).trans (LT.of_dt ht9))
        clear hk9 ht9 hH hH9
        cases wa with
        | some x =>
          obtain ⟨t, u, hv⟩ := valE_form x
          have HN := Lib.hid (log_note (some x) w9 m9 wd gl h L HKY.out)
          have HVE := Lib.hid hv
          rw [hv] at HN ⊢
          have hne := neq_nil t u
          clear hv
          go_wp2_with fail
          refine HN.out.mono ?_
          rintro e w6 ⟨rfl, hk6, ht6⟩
          have HK6 := Lib.hid hk6
          have HT6 := Lib.hid (HTY.out.trans ht6)
          clear hk6 ht6
          go_wp2_with fail
          go_ret
          exact ⟨by rw [HW3.out]; show _ = Ending.returned (valE (some x)); rw [HVE.out]; rfl, m9, by rw [HW3.out]; exact HK6.out, HT6.out⟩
        | none =>
          obtain ⟨c0, c5, c6, c7, c8, c9⟩ := HKY.out.cells
          have f5 := HKY.out.blk.frozen 5
          have f7 := HKY.out.blk.frozen 7
          have f8 := HKY.out.blk.frozen 8
          have hg9 : gl < w9.heap.size := HKY.out.blk.lt
          have hv : valE none = .nilIface := rfl
          rw [hv]
          clear hv
          go_wp2_with fail
          go_ret
          have HO := HKY.out.ok
          refine ⟨by rw [HW3.out]; rfl, m9, ?_, ((HTY.out.set 5 _).set 7 _).set 8 _⟩
          rw [HW3.out]
          exact ((HKY.out.set (L' := { L with side := so }) 5 _ rfl ⟨hso2, HO.last, HO.gen, HO.cnt, HO.half⟩).set (L' := { L with side := so, gen := gn }) 7 _ rfl ⟨hso2, HO.last, HG4.out, HO.cnt, HO.half⟩).set 8 _ rfl ⟨hso2, HO.last, HG4.out, hln, HO.half⟩
    · obtain rfl : gm = 4294967295 := by have := HM4.out; omega
      have HV : Hid (rewR d h L qs = (some (13, none), d, L)) := Lib.hid (by rw [HR1.out, if_pos rfl])
      clear HR1 HGI
      go_wp2_with fail
      go_ret
      exact ⟨by rw [HV.out]; rfl, m, by rw [HV.out]; exact HKS.out, LT.of_below HWS.out⟩
end Go.Proofs.YtombncedfleljaaGreat
namespace Go.Proofs.YtombncedfleljaaGreat
open Go.RowKit
attribute [local irreducible] wpQuiet wpAnyH
set_option linter.unusedSimpArgs false

set_option maxRecDepth 100000 in
theorem log_rewrite_nil (v : Value) (w : World) : Calls Tryz.prog 36 #[.pointer none, v] w fun e w' => e = .returned (valE (some (12, none))) ∧ w' = w := by
  go_enter Tryz.func36, Tryz.ntmps36
  go_wp2_with fail
  go_ret
  exact ⟨rfl, rfl⟩
set_option maxRecDepth 100000 in
theorem log_append_nil (q : Ent2) (w : World) (hq : EntOk q) : Calls Tryz.prog 33 #[.pointer none, .agg (entP q).toArray] w fun e w' => e = .returned (valE (some (12, none))) ∧ Below w.heap.size w w' := by
  have hql := entP_length q hq
  obtain ⟨w1, hw1⟩ : ∃ w1, w1 = w.alloc (.cells (entP q).toArray 35) := ⟨_, rfl⟩
  have HW1 : Hid (Below w.heap.size w w1) := Lib.hid (by rw [hw1]; exact bel1 _ _)
  go_enter Tryz.func33, Tryz.ntmps33
  go_upto_region 1 with fail
  rw [← hw1]
  clear hw1
  go_wp2_with fail
  go_ret
  exact ⟨rfl, HW1.out⟩
set_option maxRecDepth 100000 in
theorem log_count_nil (w : World) : Calls Tryz.prog 51 #[.pointer none] w fun e w' => e = .returned (.int .i64 0) ∧ w' = w := by
  go_enter Tryz.func51, Tryz.ntmps51
  go_wp2_with fail
  go_ret
  exact ⟨rfl, rfl⟩
set_option maxRecDepth 100000 in
theorem log_room_nil (w : World) : Calls Tryz.prog 53 #[.pointer none] w fun e w' => e = .returned (.int .i64 0) ∧ w' = w := by
  go_enter Tryz.func53, Tryz.ntmps53
  go_wp2_with fail
  go_ret
  exact ⟨rfl, rfl⟩
end Go.Proofs.YtombncedfleljaaGreat
namespace Go.Proofs.YtombncedfleljaaGreat
open Go.RowKit
attribute [local irreducible] wpQuiet wpAnyH
set_option linter.unusedSimpArgs false

theorem codeN : isI64 (codeA none) := ⟨by decide, by decide⟩
theorem code64 (c : Int) (o : Option Int) (h : isI64 c) : isI64 (codeA (some (c, o))) := h
theorem writeA_code (d : DiskD) (a : Int) : isI64 (codeA (writeA d a)) := by
  unfold writeA
  split
  · exact ⟨by decide, by decide⟩
  · split
    · exact ⟨by decide, by decide⟩
    · split
      · exact ⟨by decide, by decide⟩
      · split
        · exact ⟨by decide, by decide⟩
        · exact code64 15 _ ⟨by decide, by decide⟩
theorem syncA_code (d : DiskD) : isI64 (codeA (syncA d)) := by
  unfold syncA
  split
  · exact ⟨by decide, by decide⟩
  · split
    · exact ⟨by decide, by decide⟩
    · split
      · exact ⟨by decide, by decide⟩
      · exact ⟨by decide, by decide⟩
theorem wsA_code (d : DiskD) (a : Int) (s : List Int) : isI64 (codeA (wsA d a s)) := by
  unfold wsA
  split
  · rename_i x h
    rw [← h]; exact writeA_code d a
  · exact syncA_code _
theorem putA_code (d : DiskD) (f z p : Int) (g : Nat) (q : Ent2) : isI64 (codeA (putA d f z p g q)) := by
  unfold putA
  split
  · exact ⟨by decide, by decide⟩
  · split
    · exact ⟨by decide, by decide⟩
    · split
      · exact wsA_code _ _ _
      · exact ⟨by decide, by decide⟩
theorem fillW_code : ∀ (L : List (List Int)) (d : DiskD) (a : Int), isI64 (codeA (fillW d a L).1)
  | [], d, a => syncA_code d
  | s :: L, d, a => by
    unfold fillW
    split
    · rename_i x h
      show isI64 (codeA (some x))
      rw [← h]; exact writeA_code d a
    · exact fillW_code L _ _
theorem fillR_code (d : DiskD) (f z : Int) (g : Nat) (l : List Ent2) : isI64 (codeA (fillR d f z g l).1) := by
  unfold fillR
  split
  · exact code64 13 _ ⟨by decide, by decide⟩
  · split
    · exact fillW_code _ _ _
    · exact code64 15 _ ⟨by decide, by decide⟩
theorem appA_code (d : DiskD) (h : Nat) (L : LogD) (q : Ent2) : isI64 (codeA (appA d h L q)) := by
  unfold appA
  split
  · exact code64 11 _ ⟨by decide, by decide⟩
  · exact putA_code _ _ _ _ _ _
theorem rewR_code (d : DiskD) (h : Nat) (L : LogD) (qs : List Ent2) : isI64 (codeA (rewR d h L qs).1) := by
  unfold rewR
  split
  · exact code64 11 _ ⟨by decide, by decide⟩
  · split
    · exact code64 13 _ ⟨by decide, by decide⟩
    · unfold rewS
      have h1 := fillR_code d (sFrom h (1 - L.side)) h (max L.last L.gen + 1) qs
      have h2 := wsA_code (fillR d (sFrom h (1 - L.side)) h (max L.last L.gen + 1) qs).2 (sFrom h (1 - L.side)) (rec (max L.last L.gen + 1) toll)
      unfold rewW
      split
      · rename_i x hx
        rw [hx] at h1
        exact h1
      · split
        · rename_i x hx
          rw [hx] at h2
          exact h2
        · exact codeN
theorem openR_code (d : DiskD) : isI64 (codeA (openR d).1) := by
  unfold openR
  split
  · exact code64 15 _ ⟨by decide, by decide⟩
  · split
    · rename_i x hx
      show isI64 (codeA (some x))
      rw [← hx]; exact syncA_code d
    · unfold openS
      split
      · exact codeN
      · split
        · exact code64 13 _ ⟨by decide, by decide⟩
        · split
          · rename_i x hx
            show isI64 (codeA (some x))
            rw [← hx]; exact wsA_code _ _ _
          · exact codeN
end Go.Proofs.YtombncedfleljaaGreat
namespace Go.Proofs.YtombncedfleljaaGreat
open Go.RowKit
set_option linter.unusedSimpArgs false
section
variable {P : Program} {w : World}
theorem run_append_keep {t ty e s bytes : Nat} (T : SlT P t e s bytes) {base n m : Nat} {v x : Value} {xs news : List Value} (hown : w.ownsRow base e s v n xs) (hx : Sn w s x m news) (hm : 0 < m)
    (h1 : ∀ u ∈ news, u.oneCell' = true) (h63 : n + m ≤ maxLen) (hbytes : (n + m) * bytes ≤ 140737488355328) (hbase : base ≤ w.heap.size) :
    ∃ v' w', (Builtin.append_ #[t, t] ty #[v, x]).run P w = .ok v' w' ∧ w'.ownsRow base e s v' (n + m) (xs ++ news) ∧ w.grownBy w' v.ownBlock ∧ (v'.ownBlock = v.ownBlock ∨ v'.ownBlock = some w.heap.size) ∧ Sn w' s v n xs := by
  obtain ⟨v', w', hrun, ho, hg, hb⟩ := run_append_sn (ty := ty) T hown hx h1 h63 hbytes hbase
  refine ⟨v', w', hrun, ho, hg, hb, ?_⟩
  have hs0 := Sn.own hown
  rcases hown.2 with ⟨rfl, rfl⟩ | ⟨g, cap, cur, rfl, _, hgb, hnc, _, hcs, _⟩
  · have hxs : xs = [] := List.eq_nil_of_length_eq_zero (by simpa using hown.1)
    subst hxs
    exact ⟨none, 0, rfl, Nat.le_refl _, by simp, fun h => absurd h (by omega)⟩
  · obtain ⟨i, z, hi, hz, hsi, hby, hzs⟩ := T.hi
    obtain ⟨A, c, rfl, _, hl, hcell⟩ := hx
    obtain ⟨b, off, rfl, hc⟩ := hcell hm
    have hnews : ∀ j u, news[j]? = some u → w.cell? ((⟨b, off, none⟩ : Addr).add j) = some u := fun j u hj => by rw [Addr.add_lit]; exact hc j u hj
    subst hsi
    by_cases hroom : n + m ≤ cap
    · have hfit : n * i.size + news.length ≤ cur.size := by rw [hl, hcs, ← Nat.add_mul]; exact Nat.mul_le_mul_right _ hroom
      have hr := run_append_room (P := P) w t ty e i T.ht hi g n cap cur hgb ⟨b, off, none⟩ m c news hl hnews h1 hroom hfit
      have he := hrun.symm.trans hr
      injection he with he1 he2
      rw [he1] at ho
      have h2 := (Sn.own ho).take n (by omega)
      rwa [List.take_append_of_le_length (by rw [hown.1]; exact Nat.le_refl _), List.take_of_length_le (by rw [hown.1]; exact Nat.le_refl _)] at h2
    · have hr := run_append_grow (P := P) w t ty e i z T.ht hi hz ⟨g, 0, none⟩ n cap xs hown.1 (hown.cells (g := g) rfl) ⟨b, off, none⟩ m c news hl hnews (by omega) (by unfold maxLen at h63; omega) (growslice_fits (by omega) (by rw [hby]; exact hbytes))
      have he := hrun.symm.trans hr
      injection he with he1 he2
      rw [he2]
      exact hs0.below (((Below.refl _ w).drew).alloc (Nat.le_refl _) _)
/-- The same, for the walk: offered behind 'at_builtin'. -/
theorem appK {ops : Array Oper} {rest : List Oper} {o : Oper} {a : Act} {Q : Exit → Act → World → Prop} {t e s bytes : Nat} (T : SlT P t e s bytes) (p q : Operand)
    (ho : o.op = .call { callee := .builtin .append, args := #[p, q], argTypes := #[t, t] }) (hw : Region.wanted o (yielded ops a.tmps) = true)
    {base n m : Nat} {v x : Value} {xs news : List Value} (hv : a.eval p = v) (hown : w.ownsRow base e s v n xs) (hxv : a.eval q = x) (hx : Sn w s x m news) (hm : 0 < m)
    (h1 : ∀ u ∈ news, u.oneCell' = true) (h63 : n + m ≤ maxLen) (hbytes : (n + m) * bytes ≤ 140737488355328) (hbase : base ≤ w.heap.size)
    (h : ∀ v' w', w'.ownsRow base e s v' (n + m) (xs ++ news) → w.grownBy w' v.ownBlock → (v'.ownBlock = v.ownBlock ∨ v'.ownBlock = some w.heap.size) → Sn w' s v n xs → wpList P ops Q rest (a.put o.dst v') w') :
    wpList P ops Q (o :: rest) a w := by
  refine wpList_step fun K hK => ?_
  rw [if_pos hw]
  obtain ⟨v', w', hrun, h2, h3, h4, h5⟩ := run_append_keep (ty := o.type) T hown hx hm h1 h63 hbytes hbase
  unfold Oper.wp execOp
  simp only [ho, resolve, invoke, builtin, Sem.run_bind, Sem.run_pure, Result.andThen_ok, List.map_toArray, List.map_cons, List.map_nil, hv, hxv, hrun]
  exact hK _ _ (h v' w' h2 h3 h4 h5)
end
end Go.Proofs.YtombncedfleljaaGreat
namespace Go.Proofs.YtombncedfleljaaGreat
open Go.RowKit
attribute [local irreducible] wpQuiet wpAnyH
set_option linter.unusedSimpArgs false
set_option linter.unusedVariables false

/-- An operation changes the disk, the blocks F, and nothing else. -/
structure CT (F : List Nat) (w : World) (m : DiskM) (w' : World) (m' : DiskM) : Prop where
  g : m'.g = m.g
  fo : Fo (F ++ foot m) w w'
  sub : ∀ k ∈ foot m', k ∈ foot m ∨ w.heap.size ≤ k
  cv : ∀ k v, m'.cv k = some v → m.cv k = some v ∨ ∀ b, v.ownBlock = some b → w.heap.size ≤ b
/-- A block beside the disk and the blocks F. -/
def Far (m : DiskM) (F : List Nat) (b : Nat) : Prop := Apart m b ∧ b ∉ F
section
variable {F : List Nat} {w w' w'' : World} {m m' m'' : DiskM} {d d' : DiskD}
theorem CT.of_lt {gl : Nat} (h : LT gl w m w' m') (hg : gl ∈ F ∨ w.heap.size ≤ gl) : CT F w m w' m' :=
  ⟨h.g, ⟨h.fo.os, h.fo.tape, h.fo.output, h.fo.size, fun k hk hn => h.fo.block k hk (fun hm => by
    rcases List.mem_cons.1 hm with h1 | h1
    · rcases hg with h2 | h2
      · exact hn (List.mem_append.2 (.inl (h1 ▸ h2)))
      · omega
    · exact hn (List.mem_append.2 (.inr h1)))⟩, h.sub, h.cv⟩
theorem CT.of_dt (h : DT w m w' m') : CT F w m w' m' := ⟨h.g, h.fo.wide (fun _ hx => List.mem_append.2 (.inr hx)), h.sub, h.cv⟩
theorem CT.of_below (h : Below w.heap.size w w') : CT F w m w' m := CT.of_dt (DT.of_below h)
theorem CT.of_off {b : Nat} (h : Off b w w') (hb : b ∈ F) : CT F w m w' m :=
  ⟨rfl, ⟨h.os, h.tape, h.output, h.size, fun k hk hn => h.block k hk (fun e => hn (List.mem_append.2 (.inl (e ▸ hb))))⟩, fun _ h => .inl h, fun _ _ h => .inl h⟩
theorem CT.trans (h : CT F w m w' m') (k : CT F w' m' w'' m'') : CT F w m w'' m'' :=
  ⟨k.g.trans h.g, h.fo.trans k.fo (fun x hx => by
    rcases List.mem_append.1 hx with h1 | h1
    · exact .inl (List.mem_append.2 (.inl h1))
    · exact (h.sub x h1).imp (fun h => List.mem_append.2 (.inr h)) id), fun x hx => by
    rcases k.sub x hx with h1 | h1
    · exact h.sub x h1
    · exact .inr (Nat.le_trans h.fo.size h1), fun x v hx => by
    rcases k.cv x v hx with h1 | h1
    · exact h.cv x v h1
    · exact .inr (fun b e => Nat.le_trans h.fo.size (h1 b e))⟩
theorem CT.block (h : CT F w m w' m') {b : Nat} (hb : b < w.heap.size) (hf : Far m F b) : w'.heap[b]? = w.heap[b]? :=
  h.fo.block b hb (fun hm => (List.mem_append.1 hm).elim hf.2 hf.1.1)
theorem CT.apart (h : CT F w m w' m') {b : Nat} (hb : b < w.heap.size) (hf : Apart m b) : Apart m' b :=
  ⟨fun hm => by
    rcases h.sub b hm with h1 | h1
    · exact hf.1 h1
    · omega, fun k hk v hv e => by
    rcases h.cv k v hv with h1 | h1
    · exact hf.2 k hk v h1 e
    · have := h1 b e; omega⟩
theorem CT.far (h : CT F w m w' m') {b : Nat} (hb : b < w.heap.size) (hf : Far m F b) : Far m' F b := ⟨h.apart hb hf.1, hf.2⟩
theorem CT.below {B : Nat} (h : CT F w m w' m') (hF : ∀ k ∈ foot m, B ≤ k) (hg : ∀ k ∈ F, B ≤ k) (hB : B ≤ w.heap.size) : Below B w w' :=
  h.fo.below (fun k hk => (List.mem_append.1 hk).elim (hg k) (hF k)) hB
theorem CT.le {B : Nat} (h : CT F w m w' m') (hF : ∀ k ∈ foot m, B ≤ k) (hB : B ≤ w.heap.size) : ∀ k ∈ foot m', B ≤ k := fun k hk => by
  rcases h.sub k hk with h1 | h1
  · exact hF k h1
  · omega
theorem CT.wide {G : List Nat} (h : CT F w m w' m') (hs : ∀ x ∈ F, x ∈ G ∨ w.heap.size ≤ x) : CT G w m w' m' :=
  ⟨h.g, ⟨h.fo.os, h.fo.tape, h.fo.output, h.fo.size, fun k hk hn => h.fo.block k hk (fun hm => by
    rcases List.mem_append.1 hm with h1 | h1
    · rcases hs k h1 with h2 | h2
      · exact hn (List.mem_append.2 (.inl h2))
      · omega
    · exact hn (List.mem_append.2 (.inr h1)))⟩, h.sub, h.cv⟩
theorem St.ct {w0 : World} (h : St w0 w m d) (hk : DK w' m' d') (ht : CT F w m w' m') (hg : ∀ k ∈ F, w0.heap.size ≤ k) : St w0 w' m' d' :=
  ⟨hk, ht.le h.ft h.bel.size, h.bel.trans (ht.below h.ft hg h.bel.size)⟩
theorem Blk.ct {g : Nat} {t : TypeId} {cs : Array Value} (h : Blk w g t cs) (ht : CT F w m w' m') (hf : Far m F g) : Blk w' g t cs := (ht.block h.lt hf).trans h
end
theorem DK.offO {w w' : World} {m : DiskM} {d : DiskD} {b : Nat} (h : DK w m d) (ho : Off b w w') (ha : Apart m b) : DK w' m d where
  blk := (ho.block m.g h.blk.lt (fun e => ha.1 (e ▸ foot_g m))).trans h.blk
  sec := own_blk h.sec fun x hx => ho.block x (h.sec.lt x hx).2 (fun e => ha.1 (e ▸ foot_sv hx))
  opn := own_blk h.opn fun x hx => ho.block x (h.opn.lt x hx).2 (fun e => ha.1 (e ▸ foot_ov hx))
  last := h.last.of_block (ho.block _ h.last.lt (fun e => ha.1 (e ▸ foot_bl m)))
  fl := h.fl.of_block (ho.block _ h.fl.lt (fun e => ha.1 (e ▸ foot_bf m)))
  cr := h.cr.of_block (ho.block _ h.cr.lt (fun e => ha.1 (e ▸ foot_bc m)))
  nd := h.nd
  flv := h.flv
  crv := fun k hi => by
    have := h.crv k hi
    cases hc : d.cr k with
    | none => rw [hc] at this; exact this
    | some cs =>
      rw [hc] at this
      obtain ⟨v, h1, h2, h3⟩ := this
      refine ⟨v, h1, ?_, fun b hb => ⟨(h3 b hb).1, Nat.lt_of_lt_of_le (h3 b hb).2 ho.size⟩⟩
      have hne := ha.2 k hi v h1
      obtain ⟨A, cap, rfl, q1, q2, hx⟩ := h2
      refine ⟨A, cap, rfl, q1, q2, fun hp => ?_⟩
      obtain ⟨g, o, rfl, hcell⟩ := hx hp
      exact ⟨g, o, rfl, fun j u hj => ho.cell (hcell j u hj) (fun e => hne (by rw [← e]; rfl))⟩
  ok := h.ok
/-- An open cache: its log, the entries of its index, the end of the quarantine. -/
structure CacheD where
  L : LogD
  E : EL
  til : Int
def cacheC (gl gi : Nat) (t : Int) : Array Value := #[.pointer (some ⟨gl, 0, none⟩), .pointer (some ⟨gi, 0, none⟩), .int .i64 t]
/-- The index of a cache. -/
def XK (w : World) (gi bi n : Nat) (E : EL) : Prop := ∃ f c, IX w gi bi n f c ∧ Lists f E
theorem XK.keep {w w' : World} {gi bi n : Nat} {E : EL} (h : XK w gi bi n E) (hb : Below w.heap.size w w') : XK w' gi bi n E := by
  obtain ⟨f, c, h1, h2⟩ := h
  exact ⟨f, c, h1.keep hb, h2⟩
theorem XK.same {w w' : World} {gi bi n : Nat} {E : EL} (h : XK w gi bi n E) (h1 : w'.heap[gi]? = w.heap[gi]?) (h2 : w'.heap[bi]? = w.heap[bi]?) : XK w' gi bi n E := by
  obtain ⟨f, c, ⟨a, b, e⟩, h3⟩ := h
  exact ⟨f, c, ⟨(World.cell?_of_block (a := ⟨gi, 0, none⟩) h1).trans a, b, e.of_block h2⟩, h3⟩
theorem XK.len {w : World} {gi bi n : Nat} {E : EL} (h : XK w gi bi n E) : E.length ≤ n := by
  obtain ⟨f, c, ⟨_, _, e⟩, h3⟩ := h
  have := h3.count e
  have := e.le
  omega
theorem XK.lt {w : World} {gi bi n : Nat} {E : EL} (h : XK w gi bi n E) : gi < w.heap.size ∧ bi < w.heap.size := by
  obtain ⟨f, c, ⟨a, _, e⟩, _⟩ := h
  exact ⟨cell_lt a, e.lt⟩
theorem XK.wl {w : World} {gi bi n : Nat} {E : EL} (h : XK w gi bi n E) : WL E := by
  obtain ⟨f, c, _, h⟩ := h
  exact ⟨f, h⟩
theorem XK.mono {w : World} {gi bi n n' : Nat} {E : EL} (h : XK w gi bi n E) (hn : n ≤ n') : XK w gi bi n' E := by
  obtain ⟨f, c, h1, h2⟩ := h
  exact ⟨f, c, h1.mono hn, h2⟩
structure CK (w : World) (m : DiskM) (d : DiskD) (gc gl gi bi h n : Nat) (C : CacheD) : Prop where
  lk : LK w m d gl h C.L
  blk : Blk w gc 84 (cacheC gl gi C.til)
  ix : XK w gi bi n C.E
  ac : Apart m gc
  ai : Apart m gi
  ab : Apart m bi
  ne : gc ≠ gl ∧ gi ≠ gl ∧ bi ≠ gl ∧ gc ≠ bi ∧ gi ≠ bi
  i64 : isI64 C.til
theorem CK.keep {w w' : World} {m : DiskM} {d : DiskD} {gc gl gi bi h n : Nat} {C : CacheD} (k : CK w m d gc gl gi bi h n C) (hb : Below w.heap.size w w') : CK w' m d gc gl gi bi h n C :=
  ⟨k.lk.keep hb, k.blk.keep hb, k.ix.keep hb, k.ac, k.ai, k.ab, k.ne, k.i64⟩
/-- An operation on the log. -/
theorem CK.log {w w' : World} {m m' : DiskM} {d d' : DiskD} {gc gl gi bi h n : Nat} {C : CacheD} {L' : LogD} (k : CK w m d gc gl gi bi h n C) (hl : LK w' m' d' gl h L') (ht : LT gl w m w' m') : CK w' m' d' gc gl gi bi h n ⟨L', C.E, C.til⟩ :=
  have hc : CT [gl] w m w' m' := CT.of_lt ht (.inl (List.mem_singleton.2 rfl))
  have f1 : ∀ b, b ≠ gl → Apart m b → Far m [gl] b := fun b hb ha => ⟨ha, fun hm => hb (List.mem_singleton.1 hm)⟩
  have lt := k.ix.lt
  ⟨hl, k.blk.ct hc (f1 _ k.ne.1 k.ac), k.ix.same (hc.block lt.1 (f1 _ k.ne.2.1 k.ai)) (hc.block lt.2 (f1 _ k.ne.2.2.1 k.ab)), hc.apart k.blk.lt k.ac, hc.apart lt.1 k.ai, hc.apart lt.2 k.ab, k.ne, k.i64⟩
/-- An operation on the disk alone. -/
theorem CK.disk {w w' : World} {m m' : DiskM} {d d' : DiskD} {gc gl gi bi h n : Nat} {C : CacheD} (k : CK w m d gc gl gi bi h n C) (hk : DK w' m' d') (ht : DT w m w' m') (hl : d'.sec.length = d.sec.length) : CK w' m' d' gc gl gi bi h n C :=
  k.log (L' := C.L) (k.lk.disk hk ht hl) (LT.of_dt ht)
/-- An operation on the index. -/
theorem CK.index {w w' : World} {m : DiskM} {d : DiskD} {gc gl gi bi h n n' : Nat} {C : CacheD} {E' : EL} (k : CK w m d gc gl gi bi h n C) (ho : Off bi w w') (hx : XK w' gi bi n' E') : CK w' m d gc gl gi bi h n' ⟨C.L, E', C.til⟩ :=
  have h1 : ∀ j, j < w.heap.size → j ≠ bi → w'.heap[j]? = w.heap[j]? := ho.block
  have hfo : Fo [bi] w w' := ⟨ho.os, ho.tape, ho.output, ho.size, fun j hj hn => h1 j hj (fun e => hn (List.mem_singleton.2 e))⟩
  ⟨⟨k.lk.dk.offO ho k.ab, (h1 gl k.lk.blk.lt (fun e => k.ne.2.2.1 e.symm)).trans k.lk.blk, k.lk.ap, k.lk.ok⟩, (h1 gc k.blk.lt k.ne.2.2.2.1).trans k.blk, hx, k.ac, k.ai, k.ab, k.ne, k.i64⟩
end Go.Proofs.YtombncedfleljaaGreat
namespace Go.Proofs.YtombncedfleljaaGreat
open Go.RowKit
attribute [local irreducible] wpQuiet wpAnyH
set_option linter.unusedSimpArgs false
set_option linter.unusedVariables false

theorem xk_live (w : World) (gi bi n : Nat) (E : EL) (now : Int) (h : XK w gi bi n E) (hn : n ≤ 1000) :
    Calls Tryz.prog 37 #[.pointer (some ⟨gi, 0, none⟩), .int .i64 now] w fun e w' => ∃ v, e = .returned v ∧ Sn w' 33 v (liveL E now).length ((liveL E now).flatMap entP) ∧ Below w.heap.size w w' ∧ ∀ b, v.ownBlock = some b → w.heap.size ≤ b ∧ b < w'.heap.size := by
  obtain ⟨f, c, hx, hl⟩ := h
  refine (live_own gi bi n c f now w hx hn).mono ?_
  rintro e w' ⟨v, L, rfl, h1, h2, h3, h4, _, h5⟩
  have : L = liveL E now := (Lists.of_live h2 h3 hl.exp).eq (hl.live now)
  subst this
  exact ⟨v, rfl, h1, h4, h5⟩
theorem xk_drop (w : World) (gi bi n : Nat) (E : EL) (now : Int) (h : XK w gi bi n E) (hn : n ≤ 1000) :
    Calls Tryz.prog 38 #[.pointer (some ⟨gi, 0, none⟩), .int .i64 now] w fun e w' => ∃ k : Nat, e = .returned (.int .i64 k) ∧ XK w' gi bi n (liveL E now) ∧ Off bi w w' := by
  obtain ⟨f, c, hx, hl⟩ := h
  refine (drop_any gi bi n c f now w hx hn).mono ?_
  rintro e w' ⟨k, c', rfl, _, h1, h2⟩
  exact ⟨k, rfl, ⟨_, _, h1, hl.live now⟩, h2⟩
theorem xk_put (w : World) (gi bi n : Nat) (E : EL) (q : Ent2) (h : XK w gi bi n E) (hq : EntOk q) (hn : n ≤ 1000) :
    Calls Tryz.prog 34 #[.pointer (some ⟨gi, 0, none⟩), .agg (entP q).toArray] w fun e w' => ∃ b, e = .returned (.bool b) ∧ XK w' gi bi (n + 1) (refPut E q).1 ∧ Off bi w w' := by
  obtain ⟨f, c, hx, hl⟩ := h
  refine (put_any gi bi n c f q.1 q.2 w hx hq.dig hq.exp (by unfold maxLen; omega)).mono ?_
  rintro e w' ⟨rfl, h1, h2⟩
  exact ⟨_, rfl, ⟨_, _, h1, (refPut_ok hl hq).1⟩, h2⟩
theorem xk_has (w : World) (gi bi n : Nat) (E : EL) (d : List Int) (now : Int) (h : XK w gi bi n E) (hd : DigOk d) :
    Calls Tryz.prog 30 #[.pointer (some ⟨gi, 0, none⟩), .agg (u8s d).toArray, .int .i64 now] w fun e w' => e = .returned (.bool (hasE E d now)) ∧ Below w.heap.size w w' := by
  obtain ⟨f, c, hx, hl⟩ := h
  rw [hl.hasq hd now]
  exact has_any gi bi n c f d now w hx hd
theorem xk_new (v : Value) (l : EL) (w : World) (hs : Sn w 33 v l.length (l.flatMap entP)) (hok : ∀ p ∈ l, EntOk p) (hl : l.length ≤ 1000) :
    Calls Tryz.prog 43 #[v] w fun e w' => ∃ gi bi, e = .returned (.pointer (some ⟨gi, 0, none⟩)) ∧ XK w' gi bi l.length (refOf l) ∧ w.heap.size ≤ gi ∧ w.heap.size ≤ bi ∧ gi ≠ bi ∧ Below w.heap.size w w' := by
  refine (new_any v l w hs hok hl).mono ?_
  rintro e w' ⟨g, b, rfl, h1, h2, h3, h4⟩
  exact ⟨g, b, rfl, ⟨_, _, h1, refOf_ok l hok⟩, h2, h3, h1.2.1, h4⟩

section
variable {w : World} {gc gl gi : Nat} {til : Int}
theorem cache_cells (h : Blk w gc 84 (cacheC gl gi til)) : w.cell? ⟨gc, 0, none⟩ = some (.pointer (some ⟨gl, 0, none⟩)) ∧ w.cell? ⟨gc, 1, none⟩ = some (.pointer (some ⟨gi, 0, none⟩)) ∧ w.cell? ⟨gc, 2, none⟩ = some (.int .i64 til) :=
  ⟨(h.cell 0).trans rfl, (h.cell 1).trans rfl, (h.cell 2).trans rfl⟩
end
section
variable {w : World} {m : DiskM} {d : DiskD} {gc gl gi bi h n : Nat} {C : CacheD}
set_option maxRecDepth 100000 in
theorem c_live (now : Int) (k : CK w m d gc gl gi bi h n C) (hn : n ≤ 1000) :
    Calls Tryz.prog 19 #[.pointer (some ⟨gc, 0, none⟩), .int .i64 now] w fun e w' => ∃ v, e = .returned v ∧ Sn w' 33 v (liveL C.E now).length ((liveL C.E now).flatMap entP) ∧ Below w.heap.size w w' ∧ ∀ b, v.ownBlock = some b → w.heap.size ≤ b ∧ b < w'.heap.size := by
  obtain ⟨_, c1, _⟩ := cache_cells k.blk
  have HL := Lib.hid (xk_live w gi bi n C.E now k.ix hn)
  clear k
  go_enter Tryz.func19, Tryz.ntmps19
  go_wp2_with fail
  refine HL.out.mono ?_
  rintro e w' ⟨v, rfl, h1, h2, h3⟩
  have H1 := Lib.hid h1
  have H2 := Lib.hid h2
  have H3 := Lib.hid h3
  clear h1 h2 h3
  go_wp2_with fail
  go_ret
  exact ⟨v, rfl, H1.out, H2.out, H3.out⟩
theorem c_live_nil (now : Int) (w : World) : Calls Tryz.prog 19 #[.pointer none, .int .i64 now] w fun e w' => e = .returned (.slice none 0 0) ∧ w' = w := by
  go_enter Tryz.func19, Tryz.ntmps19
  go_wp2_with fail
  go_ret
  exact ⟨rfl, rfl⟩
theorem c_quarantine (k : CK w m d gc gl gi bi h n C) :
    Calls Tryz.prog 27 #[.pointer (some ⟨gc, 0, none⟩)] w fun e w' => e = .returned (.int .i64 C.til) ∧ w' = w := by
  obtain ⟨_, _, c2⟩ := cache_cells k.blk
  clear k
  go_enter Tryz.func27, Tryz.ntmps27
  go_wp2_with fail
  go_ret
  exact ⟨rfl, rfl⟩
theorem c_used (k : CK w m d gc gl gi bi h n C) :
    Calls Tryz.prog 24 #[.pointer (some ⟨gc, 0, none⟩)] w fun e w' => e = .returned (.int .i64 C.L.cnt) ∧ w' = w := by
  obtain ⟨c0, _, _⟩ := cache_cells k.blk
  have HL := Lib.hid (log_count w gl m.g h C.L k.lk.blk)
  clear k
  go_enter Tryz.func24, Tryz.ntmps24
  go_wp2_with fail
  refine HL.out.mono ?_
  rintro e w' ⟨rfl, hw⟩
  rw [hw]
  clear hw w'
  go_wp2_with fail
  go_ret
  exact ⟨rfl, rfl⟩
theorem c_room (k : CK w m d gc gl gi bi h n C) :
    Calls Tryz.prog 31 #[.pointer (some ⟨gc, 0, none⟩)] w fun e w' => e = .returned (.int .i64 (h - 1 : Nat)) ∧ Below w.heap.size w w' := by
  obtain ⟨c0, _, _⟩ := cache_cells k.blk
  have HL := Lib.hid (log_room w gl m.g h C.L k.lk.blk k.lk.ok.side (LogOk.h_le k.lk))
  clear k
  go_enter Tryz.func31, Tryz.ntmps31
  go_wp2_with fail
  refine HL.out.mono ?_
  rintro e w' ⟨rfl, hb⟩
  have HB := Lib.hid hb
  clear hb
  go_wp2_with fail
  go_ret
  exact ⟨rfl, HB.out⟩
theorem c_broken (k : CK w m d gc gl gi bi h n C) :
    Calls Tryz.prog 10 #[.pointer (some ⟨gc, 0, none⟩)] w fun e w' => e = .returned (.bool C.L.brk) ∧ w' = w := by
  obtain ⟨c0, _, _⟩ := cache_cells k.blk
  have HL := Lib.hid (log_broken w gl m.g h C.L k.lk.blk)
  clear k
  go_enter Tryz.func10, Tryz.ntmps10
  go_wp2_with fail
  refine HL.out.mono ?_
  rintro e w' ⟨rfl, hw⟩
  rw [hw]
  clear hw w'
  go_wp2_with fail
  go_ret
  exact ⟨rfl, rfl⟩
theorem c_broken_nil (w : World) : Calls Tryz.prog 10 #[.pointer none] w fun e w' => e = .returned (.bool true) ∧ w' = w := by
  go_enter Tryz.func10, Tryz.ntmps10
  go_wp2_with fail
  go_ret
  exact ⟨rfl, rfl⟩
end
def ansC (x : Ans) : Int := if codeA x = 12 then 0 else 9
set_option maxRecDepth 100000 in
theorem c_answer (x : Ans) (w : World) (hx : isI64 (codeA x)) : Calls Tryz.prog 32 #[valE x] w fun e w' => e = .returned (.int .i64 (ansC x)) ∧ Below w.heap.size w w' := by
  obtain ⟨v, hv⟩ : ∃ v, v = valE x := ⟨_, rfl⟩
  have HC := Lib.hid (code_val x w)
  rw [← hv] at HC ⊢
  have HA : Hid (ansC x = if codeA x = 12 then 0 else 9) := Lib.hid rfl
  obtain ⟨a, ha⟩ : ∃ a, a = ansC x := ⟨_, rfl⟩
  rw [← ha] at HA ⊢
  obtain ⟨c, hc⟩ : ∃ c, c = codeA x := ⟨_, rfl⟩
  rw [← hc] at HC HA hx
  clear hv hc ha
  rcases Bool.eq_false_or_eq_true (c == 12) with t1 | t1
  all_goals
    go_enter Tryz.func32, Tryz.ntmps32
    go_wp2_with (go_at_call 54; refine HC.out.mono ?_; rintro e w1 ⟨rfl, hb⟩; have HB := Lib.hid hb; clear hb)
    go_ret
    have h1 := HA.out
    simp only [beq_iff_eq, beq_eq_false_iff_ne, ne_eq] at t1
    first
      | (rw [if_pos t1] at h1; rw [h1]; exact ⟨rfl, HB.out⟩)
      | (rw [if_neg t1] at h1; rw [h1]; exact ⟨rfl, HB.out⟩)
end Go.Proofs.YtombncedfleljaaGreat
