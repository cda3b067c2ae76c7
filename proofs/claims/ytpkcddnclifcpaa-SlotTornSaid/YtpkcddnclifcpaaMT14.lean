/- Parts: Plain: what a record parses back to, and what a torn one does. | Plain: a disk without plans, and what a slot's scan tells of its sectors. | Plain: what SlotTorn's calls come to. | Plain: the values of SlotTorn. | tollref01.Spread, tollref17.Number. | '==' of entries, for a seat without maps of digests. | tollref18.Same (seat slot): it compares two lists of entries. | slot.Halves. | A disk that the call has made itself, and blocks beside it. | tolllaw18.code. -/
import Derived.Test.YtpkcddnclifcpaaMT9
import Derived.Test.YtpkcddnclifcpaaMT4
import Derived.Test.YtpkcddnclifcpaaMT7
import Derived.Test.YtpkcddnclifcpaaMT13
import Derived.Test.YtpkcddnclifcpaaMT11
import Derived.Test.YtpkcddnclifcpaaMT8
import Derived.Laws.Shifts
import Derived.Test.YtpkcddnclifcpaaMT1
import Derived.DeepKeys
import Derived.Deep.MidRow
import Derived.WideKeyArr
import Derived.DeepKeys2
namespace Go.Proofs.Ytpkcddnclifcpaa
open Go.RowKit
attribute [local irreducible] wpQuiet wpAnyH
set_option linter.unusedSimpArgs false

theorem beN_foldl (l : List Int) : ∀ x, l.foldl (fun x c => x * 256 + c.toNat) x = x * 256 ^ l.length + beN l := by
  induction l with
  | nil => intro x; simp [beN]
  | cons c l ih =>
    intro x
    rw [List.foldl_cons, ih, show beN (c :: l) = (c :: l).foldl (fun x c => x * 256 + c.toNat) 0 from rfl, List.foldl_cons, ih, List.length_cons, Nat.pow_succ, Nat.zero_mul, Nat.zero_add]
    rw [Nat.add_mul, Nat.mul_assoc, Nat.mul_comm 256, Nat.add_assoc]
theorem beN_cons (c : Int) (l : List Int) : beN (c :: l) = c.toNat * 256 ^ l.length + beN l := by
  rw [show beN (c :: l) = (c :: l).foldl (fun x c => x * 256 + c.toNat) 0 from rfl, List.foldl_cons, beN_foldl, Nat.zero_mul, Nat.zero_add]
theorem beN_beB : ∀ k x, beN (beB k x) = x % 256 ^ k
  | 0, x => by simp [beN, beB, Nat.mod_one]
  | m + 1, x => by
    rw [beB, beN_cons, beN_beB m x, beB_length, Nat.mod_pow_succ, Int.toNat_natCast, Nat.mul_comm, Nat.add_comm]
theorem beN_inj : ∀ {a b : List Int}, Bys a → Bys b → a.length = b.length → beN a = beN b → a = b
  | [], b, _, _, hl, _ => (List.length_eq_zero_iff.1 hl.symm).symm
  | c :: a, [], _, _, hl, _ => by simp at hl
  | c :: a, e :: b, ha, hb, hl, h => by
    have hl' : a.length = b.length := by simpa using hl
    rw [beN_cons, beN_cons, hl'] at h
    have h1 := beN_lt a (fun x h => ha x (by simp [h]))
    have h2 := beN_lt b (fun x h => hb x (by simp [h]))
    rw [hl'] at h1
    have hc := ha c (by simp)
    have he := hb e (by simp)
    have hq : c.toNat = e.toNat := by
      have e1 := congrArg (· / 256 ^ b.length) h
      simp only [Nat.mul_comm _ (256 ^ b.length), Nat.mul_add_div (Nat.pow_pos (by omega : 0 < 256)), Nat.div_eq_of_lt h1, Nat.div_eq_of_lt h2, Nat.add_zero] at e1
      exact e1
    have hr : beN a = beN b := by rw [hq] at h; omega
    rw [beN_inj (fun x h => ha x (by simp [h])) (fun x h => hb x (by simp [h])) hl' hr, show c = e by omega]

theorem body_eq (p : List Int) (h : p.length ≤ 54) : (body p).take 56 = beB 2 p.length ++ (p ++ List.replicate (54 - p.length) 0) := by
  unfold body pad
  rw [List.append_assoc, List.length_append, beB_length]
  rw [show 64 - (2 + p.length) = (54 - p.length) + 8 by omega, ← List.replicate_append_replicate, ← List.append_assoc p, ← List.append_assoc (beB 2 p.length)]
  rw [List.take_left' (by simp [beB_length]; omega)]
/-- The four parts of a record. -/
theorem rec_parts (g : Nat) (p : List Int) (h : p.length ≤ 54) : ∃ A C : List Int, A = beB 2 p.length ++ (p ++ List.replicate (54 - p.length) 0) ∧ A.length = 56 ∧ C = beB 4 (crcSum (A ++ beB 4 g)) ∧ rec g p = A ++ (C ++ beB 4 g) := by
  refine ⟨_, _, rfl, by simp [beB_length]; omega, rfl, ?_⟩
  unfold rec
  rw [body_eq p h]
theorem zeros_rep (n : Nat) : zeros (List.replicate n 0) = true := by
  unfold zeros
  rw [List.all_eq_true]
  intro c hc
  rw [(List.mem_replicate.1 hc).2]
  rfl
theorem rec_drop60 (g : Nat) (p : List Int) (h : p.length ≤ 54) : (rec g p).drop 60 = beB 4 g := by
  obtain ⟨A, C, _, hA, hC, hr⟩ := rec_parts g p h
  have hc : C.length = 4 := by rw [hC, beB_length]
  rw [hr, ← List.append_assoc, List.drop_left' (by simp [hA, hc])]
theorem prs_rec (g : Nat) (p : List Int) (h : p.length ≤ 54) (hg : g < 4294967296) : prs (rec g p) = some (g, p) := by
  obtain ⟨A, C, hAd, hA, hC, hr⟩ := rec_parts g p h
  have hc : C.length = 4 := by rw [hC, beB_length]
  have h4 := beB_length 4 g
  have e1 : (rec g p).take 2 = beB 2 p.length := by
    rw [hr, List.take_append_of_le_length (by omega), hAd, List.take_left' (beB_length 2 _)]
  have e2 : (rec g p).drop 2 = p ++ (List.replicate (54 - p.length) 0 ++ (C ++ beB 4 g)) := by
    rw [hr, hAd, List.append_assoc, List.drop_left' (beB_length 2 _), List.append_assoc]
  have n1 : beN (beB 2 p.length) = p.length := by rw [beN_beB]; exact Nat.mod_eq_of_lt (by omega)
  have e3 : (rec g p).drop (2 + p.length) = List.replicate (54 - p.length) 0 ++ (C ++ beB 4 g) := by
    rw [← List.drop_drop, e2, List.drop_left]
  have e4 : (rec g p).drop 56 = C ++ beB 4 g := by rw [hr, List.drop_left' hA]
  have e5 := rec_drop60 g p h
  have e6 : (rec g p).take 56 = A := by rw [hr, List.take_left' hA]
  have n2 : beN C = crcSum (A ++ beB 4 g) := by rw [hC, beN_beB]; exact Nat.mod_eq_of_lt (crcSum_lt _)
  have n3 : beN (beB 4 g) = g := by rw [beN_beB]; exact Nat.mod_eq_of_lt (by omega)
  unfold prs
  rw [e1, n1, e3, e4, e5, e6, if_neg (by omega), List.take_left' (by simp), zeros_rep, List.take_left' hc, n2, List.take_of_length_le (by omega), n3, e2, List.take_left]
  simp
theorem prsH_rec (g : Nat) (hg : g < 4294967296) : prsH (rec g toll) = some g := by
  unfold prsH
  rw [prs_rec g toll (by decide) hg]
  simp
theorem prsE_rec (g : Nat) (q : List Int × Int) (hq : EntOk q) (hr : rightE q = true) (hg : g < 4294967296) : prsE (entRec g q) = some (g, q) := by
  have h32 := hq.dig.len
  have hr' : 0 ≤ q.2 ∧ q.2 ≤ 4611686018427387904 := by unfold rightE at hr; simpa using hr
  unfold prsE entRec
  rw [prs_rec g _ (by rw [List.length_append, h32, beB_length]; omega) hg]
  have n1 : beN (beB 8 q.2.toNat) = q.2.toNat := by rw [beN_beB]; exact Nat.mod_eq_of_lt (by omega)
  simp only [List.drop_left' h32, List.take_left' h32, n1, List.length_append, h32, beB_length]
  rw [if_pos ⟨by decide, by omega⟩]
  rw [show ((q.2.toNat : Nat) : Int) = q.2 by omega]
theorem prs_gen {s : List Int} {g : Nat} {p : List Int} (h : prs s = some (g, p)) : g = beN ((s.drop 60).take 4) := by
  unfold prs at h
  split at h
  · cases h
  · split at h
    · cases h
    · split at h
      · cases h
      · injection h with h; injection h with h _; exact h.symm
theorem prsE_gen {s : List Int} {g : Nat} {e : List Int × Int} (h : prsE s = some (g, e)) : g = beN ((s.drop 60).take 4) := by
  unfold prsE at h
  split at h
  · cases h
  · rename_i g' p h1
    split at h
    · injection h with h; injection h with h _; rw [← h]; exact prs_gen h1
    · cases h
theorem beN_zeros (n : Nat) : beN (List.replicate n 0) = 0 := by
  induction n with
  | zero => rfl
  | succ n ih => rw [List.replicate_succ, beN_cons, ih]; simp
theorem prs_zsec {g : Nat} {p : List Int} (h : prs zsec = some (g, p)) : p = [] := by
  unfold prs at h
  rw [show zsec.take 2 = List.replicate 2 0 by unfold zsec; rw [List.take_replicate]; rfl, beN_zeros] at h
  split at h
  · cases h
  · split at h
    · cases h
    · split at h
      · cases h
      · injection h with h; injection h with _ h; rw [← h, List.take_zero]
theorem prsE_zsec : prsE zsec = none := by
  unfold prsE
  split
  · rfl
  · rename_i g p h
    rw [prs_zsec h, if_neg (by simp)]
theorem prsH_zsec : prsH zsec = none := by
  unfold prsH
  split
  · rename_i g p h
    rw [prs_zsec h, if_neg (by decide)]
  · rfl
theorem tearL_all {old data : List Int} (c : Int) (ho : old.length = 64) (hd : data.length = 64) (h : 64 ≤ c) : tearL old data c = data := by
  unfold tearL
  rw [show cutN c = 64 by unfold cutN; omega, List.take_of_length_le (by omega), List.drop_eq_nil_of_le (by omega), List.append_nil]
/-- A record of a generation other than 0 that is torn over a sector of zeros is whole, or is none of this generation. -/
theorem torn_rec (g : Nat) (p : List Int) (hp : p.length ≤ 54) (hg : g < 4294967296) (hg0 : g ≠ 0) (c : Int) :
    tearL zsec (rec g p) c = rec g p ∨ (c < 64 ∧ ∀ g' e, prsE (tearL zsec (rec g p) c) = some (g', e) → g' ≠ g) := by
  have hl := rec_length g p hp
  have hz : zsec.length = 64 := by simp [zsec]
  rcases Int.lt_or_le c 64 with h | h
  rotate_left 1
  · exact .inl (tearL_all c hz hl h)
  have hk : cutN c < 64 := by unfold cutN; omega
  have ht : tearL zsec (rec g p) c = (rec g p).take (cutN c) ++ List.replicate (64 - cutN c) 0 := by
    unfold tearL zsec
    rw [List.drop_replicate]
  generalize cutN c = k at hk ht
  have h60 := rec_drop60 g p hp
  have hsplit : (rec g p) = (rec g p).take 60 ++ beB 4 g := by rw [← h60, List.take_append_drop]
  have h4 := beB_length 4 g
  have ng : beN (beB 4 g) = g := by rw [beN_beB]; exact Nat.mod_eq_of_lt (by omega)
  rcases Nat.lt_or_ge k 60 with hk6 | hk6
  · refine .inr ⟨h, fun g' e he => ?_⟩
    have := prsE_gen he
    rw [ht, List.drop_append, List.drop_eq_nil_of_le (by simp; omega), List.nil_append, List.drop_replicate, List.take_replicate, beN_zeros] at this
    omega
  · have hd : (tearL zsec (rec g p) c).drop 60 = (beB 4 g).take (k - 60) ++ List.replicate (64 - k) 0 := by
      rw [ht, List.drop_append_of_le_length (by simp; omega), List.drop_take, h60]
    by_cases he : (tearL zsec (rec g p) c).drop 60 = beB 4 g
    · left
      have h1 : (tearL zsec (rec g p) c).take 60 = (rec g p).take 60 := by
        rw [ht, List.take_append_of_le_length (by simp; omega), List.take_take, Nat.min_eq_left hk6]
      rw [← List.take_append_drop 60 (tearL zsec (rec g p) c), h1, he, ← hsplit]
    · refine .inr ⟨h, fun g' e hpe hgg => he ?_⟩
      have h2 := prsE_gen hpe
      have h3 : ((tearL zsec (rec g p) c).drop 60).length = 4 := by rw [hd]; simp [beB_length]; omega
      rw [List.take_of_length_le (by omega), hgg] at h2
      refine beN_inj ?_ (beB_bys 4 g) (by rw [h3, h4]) (by rw [ng]; exact h2.symm)
      rw [hd]
      intro b hb'
      rcases List.mem_append.1 hb' with hb' | hb'
      · exact beB_bys 4 g b (List.mem_of_mem_take hb')
      · rw [(List.mem_replicate.1 hb').2]; omega
end Go.Proofs.Ytpkcddnclifcpaa
namespace Go.Proofs.Ytpkcddnclifcpaa
open Go.RowKit
attribute [local irreducible] wpQuiet wpAnyH
set_option linter.unusedSimpArgs false

/-- A disk that is not down, without plans. -/
def qD (sec : List (List Int)) (opn : List (Int × List Int)) (st r : Nat) : DiskD := { sec := sec, opn := opn, down := false, steps := st, fl := fun _ => false, cr := fun _ => none, room := r }
theorem newD_q (n : Nat) : newD n = qD (List.replicate n zsec) [] 0 0 := rfl
theorem stepped_q (sec : List (List Int)) (opn : List (Int × List Int)) (st r : Nat) : stepped (qD sec opn st r) = qD sec opn (st + 1) (max r (st + 1)) := by
  unfold stepped qD
  simp
theorem outS_q (sec : List (List Int)) (opn : List (Int × List Int)) (st r : Nat) : outS (qD sec opn st r) = 0 := rfl
theorem has_q {sec : List (List Int)} {opn : List (Int × List Int)} {st r : Nat} {a : Int} (h : 0 ≤ a) (h' : a < sec.length) : hasB (qD sec opn st r) a = true := by
  unfold hasB
  rw [decide_eq_true h, Bool.true_and]
  exact decide_eq_true h'
theorem writeA_q {sec : List (List Int)} {opn : List (Int × List Int)} {st r : Nat} {a : Int} (h : 0 ≤ a) (h' : a < sec.length) : writeA (qD sec opn st r) a = none := by
  unfold writeA
  rw [outS_q, has_q h h']
  rfl
theorem writeD_q {sec : List (List Int)} {opn : List (Int × List Int)} {st r : Nat} {a : Int} (h : 0 ≤ a) (h' : a < sec.length) (s : List Int) : writeD (qD sec opn st r) a s = qD sec (opn ++ [(a, s)]) (st + 1) (max r (st + 1) + 1) := by
  unfold writeD
  rw [outS_q, stepped_q]
  unfold addIf
  rw [has_q h h']
  rfl
theorem syncA_q (sec : List (List Int)) (opn : List (Int × List Int)) (st r : Nat) : syncA (qD sec opn st r) = none := rfl
theorem syncS_q (sec : List (List Int)) (opn : List (Int × List Int)) (st r : Nat) : syncS (qD sec opn st r) = qD (syncN sec opn opn.length) [] (st + 1) (max r (st + 1)) := by
  unfold syncS
  rw [outS_q, stepped_q]
  rfl
theorem wsA_q {sec : List (List Int)} {opn : List (Int × List Int)} {st r : Nat} {a : Int} (h : 0 ≤ a) (h' : a < sec.length) (s : List Int) : wsA (qD sec opn st r) a s = none := by
  unfold wsA
  rw [writeA_q h h', writeD_q h h']
  rfl
theorem wsD_q {sec : List (List Int)} {st r : Nat} {a : Int} (h : 0 ≤ a) (h' : a < sec.length) (s : List Int) : ∃ r', st + 2 ≤ r' ∧ r' ≤ max r (st + 2) + 1 ∧ wsD (qD sec [] st r) a s = qD (sec.set a.toNat s) [] (st + 2) r' := by
  refine ⟨max (max r (st + 1) + 1) (st + 2), by omega, by omega, ?_⟩
  unfold wsD
  rw [writeA_q h h', writeD_q h h']
  show syncS _ = _
  rw [syncS_q]
  rfl
theorem secs_still {d : DiskD} (hd : d.down = false) (ho : d.opn = []) : ∀ (n : Nat) (a : Int), 0 ≤ a → a.toNat + n ≤ d.sec.length → secsL d a n = ((d.sec.drop a.toNat).take n).map (fun s => (s, none))
  | 0, a, _, _ => by simp [secsL]
  | n + 1, a, h0, h => by
    have hlt : a.toNat < d.sec.length := by omega
    have hh : hasB d a = true := by unfold hasB; simp; omega
    have e1 : rdA d a = none := by unfold rdA; rw [hd, hh]; rfl
    have e2 : rdS d a = d.sec[a.toNat] := by
      unfold rdS
      rw [hd, hh]
      show rdD d a = _
      unfold rdD
      rw [ho]
      simp [hlt]
    rw [secsL, e1, if_pos rfl, e2, secs_still hd ho n (a + 1) (by omega) (by omega), List.drop_eq_getElem_cons hlt, List.take_succ_cons, List.map_cons, show (a + 1).toNat = a.toNat + 1 by omega]
/-- What a scan makes of the sectors. -/
def scanL : SSt → List (List Int) → SSt
  | st, [] => st
  | st, s :: r => match stepS st s with | some st' => scanL st' r | none => st
theorem scan_still : ∀ (L : List (List Int)) (st : SSt), scanR st (L.map (fun s => (s, none))) = (scanL st L, none)
  | [], st => rfl
  | s :: r, st => by
    rw [List.map_cons]
    unfold scanR scanL
    cases h : stepS st s with
    | none => rfl
    | some st' => exact scan_still r st'
theorem scan_head (g : Nat) (hg : g < 4294967296) (L : List (List Int)) : scanL (none, []) (rec g toll :: L) = scanL (some g, []) L := by
  rw [scanL]
  unfold stepS
  simp only [prsH_rec g hg, Option.map_some]
theorem scan_ents (g : Nat) (hg : g < 4294967296) : ∀ (qs : List Ent2) (es : List Ent2) (L : List (List Int)), (∀ q ∈ qs, EntOk q ∧ rightE q = true) → scanL (some g, es) (qs.map (entRec g) ++ L) = scanL (some g, es ++ qs) L
  | [], es, L, _ => by simp
  | q :: qs, es, L, h => by
    have hq := h q (by simp)
    rw [List.map_cons, List.cons_append, scanL]
    unfold stepS
    simp only [prsE_rec g q hq.1 hq.2 hg, if_true]
    rw [scan_ents g hg qs _ L (fun x hx => h x (by simp [hx])), List.append_assoc]
    rfl
theorem scan_stop {g : Nat} {es : List Ent2} {s : List Int} {L : List (List Int)} (h : ∀ g' e, prsE s = some (g', e) → g' ≠ g) : scanL (some g, es) (s :: L) = (some g, es) := by
  rw [scanL]
  unfold stepS
  cases hp : prsE s with
  | none => rfl
  | some x =>
    obtain ⟨g', e⟩ := x
    simp only [if_neg (h g' e hp)]
theorem scan_zero (L : List (List Int)) : scanL (none, []) (zsec :: L) = (none, []) := by
  rw [scanL]
  unfold stepS
  simp only [prsH_zsec, Option.map_none]
theorem scan_longer (g : Nat) : ∀ (L : List (List Int)) (es : List Ent2), ∃ more, scanL (some g, es) L = (some g, es ++ more) ∧ more.length ≤ L.length
  | [], es => ⟨[], by simp [scanL], Nat.le_refl _⟩
  | s :: L, es => by
    rw [scanL]
    unfold stepS
    cases hp : prsE s with
    | none => exact ⟨[], by simp, by simp⟩
    | some x =>
      obtain ⟨g', e⟩ := x
      by_cases hg : g' = g
      · obtain ⟨m, hm, hl⟩ := scan_longer g L (es ++ [e])
        refine ⟨e :: m, ?_, by simp; omega⟩
        simp only [if_pos hg, hm, List.append_assoc, List.singleton_append]
      · refine ⟨[], ?_, by simp⟩
        simp only [if_neg hg, List.append_nil]
end Go.Proofs.Ytpkcddnclifcpaa
namespace Go.Proofs.Ytpkcddnclifcpaa
open Go.RowKit
attribute [local irreducible] wpQuiet wpAnyH
set_option linter.unusedSimpArgs false

/-- Writes of some sectors, one behind the other. -/
def wrs : Int → List (List Int) → List (Int × List Int)
  | _, [] => []
  | a, s :: L => (a, s) :: wrs (a + 1) L
theorem wrs_length : ∀ (L : List (List Int)) (a : Int), (wrs a L).length = L.length
  | [], _ => rfl
  | _ :: L, a => by rw [wrs, List.length_cons, wrs_length L, List.length_cons]
def setAll (sec : List (List Int)) (l : List (Int × List Int)) : List (List Int) := l.foldl (fun s p => s.set p.1.toNat p.2) sec
theorem setAll_append (sec : List (List Int)) (l m : List (Int × List Int)) : setAll sec (l ++ m) = setAll (setAll sec l) m := by unfold setAll; rw [List.foldl_append]
theorem setAll_length (l : List (Int × List Int)) : ∀ sec : List (List Int), (setAll sec l).length = sec.length := by
  induction l with
  | nil => intro sec; rfl
  | cons p l ih => intro sec; rw [setAll, List.foldl_cons]; exact (ih _).trans (by simp)
theorem sync_set (r : List (List Int)) (l : List (Int × List Int)) : ∀ j, j ≤ l.length → syncN r l j = setAll r (l.take j)
  | 0, _ => by simp [syncN, setAll]
  | j + 1, h => by
    have hlt : j < l.length := by omega
    rw [syncN, sync_set r l j (by omega), List.take_succ_eq_append_getElem hlt, setAll_append]
    simp [setAll, hlt]
theorem sync_all (r : List (List Int)) (l : List (Int × List Int)) : syncN r l l.length = setAll r l := by rw [sync_set r l _ (Nat.le_refl _), List.take_length]
/-- Sectors that are written one behind the other lie one behind the other. -/
theorem set_run : ∀ (L : List (List Int)) (a : Int) (sec : List (List Int)), 0 ≤ a → a.toNat + L.length ≤ sec.length → setAll sec (wrs a L) = sec.take a.toNat ++ L ++ sec.drop (a.toNat + L.length)
  | [], a, sec, _, _ => by simp [wrs, setAll]
  | s :: L, a, sec, h0, h => by
    rw [List.length_cons] at h
    have hlt : a.toNat < sec.length := by omega
    have ha : (a + 1).toNat = a.toNat + 1 := by omega
    rw [wrs, show setAll sec ((a, s) :: wrs (a + 1) L) = setAll (sec.set a.toNat s) (wrs (a + 1) L) from rfl]
    rw [set_run L (a + 1) _ (by omega) (by rw [List.length_set]; omega), ha, List.length_cons]
    rw [show (sec.set a.toNat s).take (a.toNat + 1) = sec.take a.toNat ++ [s] by
      rw [List.take_succ_eq_append_getElem (by rw [List.length_set]; exact hlt), List.take_set_of_le (Nat.le_refl _), List.getElem_set_self]]
    rw [List.drop_set_of_lt (by omega), List.append_assoc, List.append_assoc, List.append_assoc, show a.toNat + 1 + L.length = a.toNat + (L.length + 1) by omega]
    rfl
/-- A fill of a disk without plans is done. -/
theorem fillW_q : ∀ (L : List (List Int)) (sec : List (List Int)) (opn : List (Int × List Int)) (st r : Nat) (a : Int), 0 ≤ a → a.toNat + L.length ≤ sec.length → st ≤ r →
    ∃ r', r' ≤ r + 2 * L.length + 1 ∧ fillW (qD sec opn st r) a L = (none, qD (setAll sec (opn ++ wrs a L)) [] (st + L.length + 1) r')
  | [], sec, opn, st, r, a, h0, h, hr => by
    refine ⟨max r (st + 1), by simp; omega, ?_⟩
    rw [fillW, syncA_q, syncS_q, wrs, List.append_nil, sync_all]
    rfl
  | s :: L, sec, opn, st, r, a, h0, h, hr => by
    rw [List.length_cons] at h
    obtain ⟨r', hr', hf⟩ := fillW_q L sec (opn ++ [(a, s)]) (st + 1) (max r (st + 1) + 1) (a + 1) (by omega) (by omega) (by omega)
    refine ⟨r', by rw [List.length_cons]; omega, ?_⟩
    rw [fillW, writeA_q h0 (by omega), writeD_q h0 (by omega)]
    show fillW _ _ _ = _
    rw [hf, wrs, List.append_assoc, List.length_cons, show st + 1 + L.length + 1 = st + (L.length + 1) + 1 by omega]
    rfl
theorem crash_one (sec : List (List Int)) (a : Int) (s : List Int) (c : Int) (h : a.toNat < sec.length) : crashL sec [(a, s)] [c] = sec.set a.toNat (tearL sec[a.toNat] s c) := by
  unfold crashL
  simp [tornN, h]
theorem scan_zeros (g : Nat) (es : List Ent2) : ∀ k, scanL (some g, es) (List.replicate k zsec) = (some g, es)
  | 0 => rfl
  | k + 1 => by
    rw [List.replicate_succ]
    exact scan_stop (fun g' e h => by rw [prsE_zsec] at h; cases h)
theorem entRec_len {q : Ent2} (hq : EntOk q) : (q.1 ++ beB 8 q.2.toNat).length ≤ 54 := by rw [List.length_append, hq.dig.len, beB_length]; omega

/-- A put that crashes in its write or in its sync. -/
theorem put_crash (sec : List (List Int)) (st r : Nat) (p : Nat) (g : Nat) (q : Ent2) (hq : rightE q = true) (k : Nat) (cut : Int) (hk : k = 1 ∨ k = 2) (hp1 : 1 ≤ p) (hp : p < 5) (hs : sec.length = 5) :
    putA (planC (qD sec [] st r) k [cut]) 0 5 p g q = some (12, none) ∧ (putD (planC (qD sec [] st r) k [cut]) 0 5 p g q).down = true ∧ (putD (planC (qD sec [] st r) k [cut]) 0 5 p g q).opn = [] ∧
      (putD (planC (qD sec [] st r) k [cut]) 0 5 p g q).sec = sec.set p (tearL (sec.getD p []) (entRec g q) cut) := by
  have hpl : p < sec.length := by omega
  have hR : ∀ d : DiskD, putA d 0 5 p g q = wsA d p (entRec g q) ∧ putD d 0 5 p g q = wsD d p (entRec g q) := fun d => by
    have h1 : ¬ ((p : Int) < 1) := by omega
    have h2 : ¬ (room 5 < (p : Int)) := by rw [show room 5 = 4 from rfl]; omega
    unfold putA putD
    rw [if_neg h1, if_neg h1, if_neg h2, if_neg h2, if_pos hq, if_pos hq, Int.zero_add]
    exact ⟨rfl, rfl⟩
  rw [(hR _).1, (hR _).2]
  obtain ⟨d, hd⟩ : ∃ d, d = planC (qD sec [] st r) k [cut] := ⟨_, rfl⟩
  have e1 : d.sec = sec ∧ d.opn = [] ∧ d.down = false ∧ d.steps = st ∧ (∀ x, d.fl x = false) ∧ ∀ x, d.cr x = if x = (st : Int) + k then some [cut] else none := by
    rw [hd]
    unfold planC
    rw [if_neg (by omega)]
    exact ⟨rfl, rfl, rfl, rfl, fun _ => rfl, fun _ => rfl⟩
  rw [← hd]
  obtain ⟨e1, e2, e3, e4, e5, e6⟩ := e1
  clear hd hR
  have hh : hasB d p = true := by unfold hasB; simp [e1, hpl]
  have hg : sec.getD p [] = sec[p] := by simp [hpl]
  rw [hg]
  rcases hk with rfl | rfl
  · have hx : d.cr ((d.steps + 1 : Nat) : Int) = some [cut] := by rw [e6, e4, if_pos (by omega)]
    have ho : outS d = 2 := by unfold outS; rw [hx]; rfl
    have hc : cutsS d = [cut] := by unfold cutsS; rw [hx]; rfl
    have hA : writeA d p = some (12, none) := by unfold writeA; rw [e3, ho]; rfl
    have hD : writeD d p (entRec g q) = crashD (addD (stepped d) p (entRec g q)) [cut] := by
      unfold writeD
      rw [e3, ho, hc]
      unfold addIf
      rw [show hasB (stepped d) p = hasB d p from rfl, hh]
      rfl
    unfold wsA wsD
    rw [hA, hD]
    refine ⟨rfl, rfl, rfl, ?_⟩
    show crashL (stepped d).sec ((stepped d).opn ++ [((p : Int), entRec g q)]) [cut] = _
    rw [show (stepped d).sec = sec from e1, show (stepped d).opn = [] from e2, List.nil_append, crash_one _ _ _ _ (by simpa using hpl)]
    rfl
  · have hx : d.cr ((d.steps + 1 : Nat) : Int) = none := by rw [e6, e4, if_neg (by omega)]
    have ho : outS d = 0 := by unfold outS; rw [hx, e5]; rfl
    have hA : writeA d p = none := by unfold writeA; rw [e3, ho, hh]; rfl
    have hD : writeD d p (entRec g q) = addD (stepped d) p (entRec g q) := by
      unfold writeD
      rw [e3, ho]
      unfold addIf
      rw [show hasB (stepped d) p = hasB d p from rfl, hh]
      rfl
    obtain ⟨d', hd'⟩ : ∃ d', d' = addD (stepped d) p (entRec g q) := ⟨_, rfl⟩
    have f1 : d'.sec = sec ∧ d'.opn = [((p : Int), entRec g q)] ∧ d'.down = false ∧ d'.cr ((d'.steps + 1 : Nat) : Int) = some [cut] := by
      rw [hd']
      refine ⟨e1, ?_, e3, ?_⟩
      · show d.opn ++ _ = _
        rw [e2]; rfl
      · show (if ((d.steps + 1 + 1 : Nat) : Int) = ((d.steps + 1 : Nat) : Int) then none else d.cr ((d.steps + 1 + 1 : Nat) : Int)) = _
        rw [if_neg (by omega), e6, e4, if_pos (by omega)]
    unfold wsA wsD
    rw [hA, hD, ← hd']
    obtain ⟨f1, f2, f3, f4⟩ := f1
    have ho' : outS d' = 2 := by unfold outS; rw [f4]; rfl
    have hc' : cutsS d' = [cut] := by unfold cutsS; rw [f4]; rfl
    show syncA d' = _ ∧ (syncS d').down = _ ∧ (syncS d').opn = _ ∧ (syncS d').sec = _
    have hS : syncS d' = crashD (stepped d') [cut] := by unfold syncS; rw [f3, ho', hc']; rfl
    rw [hS]
    refine ⟨by unfold syncA; rw [f3, ho']; rfl, rfl, rfl, ?_⟩
    show crashL (stepped d').sec (stepped d').opn [cut] = _
    rw [show (stepped d').sec = sec from f1, show (stepped d').opn = [((p : Int), entRec g q)] from f2, crash_one _ _ _ _ (by simpa using hpl)]
    rfl
end Go.Proofs.Ytpkcddnclifcpaa
namespace Go.Proofs.Ytpkcddnclifcpaa
open Go.RowKit
attribute [local irreducible] wpQuiet wpAnyH
set_option linter.unusedSimpArgs false

theorem torn_vals (es : List Ent2) (x : Ent2) (g : Nat) (hg : g < 4294967296) (hg0 : g ≠ 0) (hes : ∀ q ∈ es, EntOk q ∧ rightE q = true) (hx : EntOk x ∧ rightE x = true) (hl : es.length ≤ 3) (cut : Int) (k : Nat) (hk : k = 1 ∨ k = 2) :
    ∃ d1 d2 d4 : DiskD, wsA (newD 5) 0 (rec g toll) = none ∧ wsD (newD 5) 0 (rec g toll) = d1 ∧ fillR d1 0 5 g es = (none, d2) ∧ d1.room ≤ 100 ∧ d2.room ≤ 100 ∧
      putA (planC d2 k [cut]) 0 5 ((es.length + 1 : Nat) : Int) g x = some (12, none) ∧ putD (planC d2 k [cut]) 0 5 ((es.length + 1 : Nat) : Int) g x = d4 ∧
      ∃ ents, scanR (none, []) (secsL (startD d4) 0 (5 : Nat)) = ((some g, ents), none) ∧ (ents = es ++ [x] ∨ (cut < 64 ∧ ents = es)) := by
  obtain ⟨r1, hr0, hr1, h1⟩ := wsD_q (sec := List.replicate 5 zsec) (st := 0) (r := 0) (a := 0) (by decide) (by simp) (rec g toll)
  obtain ⟨sec1, hs1⟩ : ∃ s, s = (List.replicate 5 zsec).set (0 : Int).toNat (rec g toll) := ⟨_, rfl⟩
  rw [← hs1] at h1
  have hl1 : sec1.length = 5 := by rw [hs1]; simp
  obtain ⟨r2, hr2, h2⟩ := fillW_q (es.map (entRec g)) sec1 [] 2 r1 1 (by decide) (by rw [List.length_map, hl1]; show 1 + _ ≤ 5; omega) hr0
  rw [List.nil_append, set_run _ 1 _ (by decide) (by rw [List.length_map, hl1]; show 1 + _ ≤ 5; omega), List.length_map] at h2
  rw [List.length_map] at hr2
  obtain ⟨sec2, hs2⟩ : ∃ s, s = sec1.take (1 : Int).toNat ++ es.map (entRec g) ++ sec1.drop ((1 : Int).toNat + es.length) := ⟨_, rfl⟩
  rw [← hs2] at h2
  have hsec2 : sec2 = rec g toll :: (es.map (entRec g) ++ zsec :: List.replicate (3 - es.length) zsec) := by
    rw [hs2, hs1]
    show [rec g toll] ++ _ ++ ([rec g toll, zsec, zsec, zsec, zsec].drop (1 + es.length)) = _
    rw [Nat.add_comm 1, List.drop_succ_cons, List.append_assoc, List.singleton_append]
    congr 2
    rw [show [zsec, zsec, zsec, zsec] = List.replicate 4 zsec from rfl, List.drop_replicate, show 4 - es.length = (3 - es.length) + 1 by omega, List.replicate_succ]
  have hl2 : sec2.length = 5 := by rw [hsec2]; simp; omega
  have hwsD : wsD (newD 5) 0 (rec g toll) = qD sec1 [] 2 r1 := by rw [newD_q]; exact h1
  have hfill : ∃ r, r ≤ 90 ∧ fillR (qD sec1 [] 2 r1) 0 5 g es = (none, qD sec2 [] (2 + es.length + 1) r) := by
    refine ⟨r2, by omega, ?_⟩
    unfold fillR
    rw [if_neg (by rw [show room 5 = 4 from rfl]; omega), if_pos (by rw [List.all_eq_true]; exact fun q hq => (hes q hq).2)]
    exact h2
  obtain ⟨r, hr, hfill⟩ := hfill
  obtain ⟨p1, p2, p3, p4⟩ := put_crash sec2 (2 + es.length + 1) r (es.length + 1) g x hx.2 k cut hk (by omega) (by omega) hl2
  refine ⟨_, _, _, by rw [newD_q]; exact wsA_q (by decide) (by simp) _, hwsD, hfill, by show r1 ≤ 100; omega, by show r ≤ 100; omega, p1, rfl, ?_⟩
  obtain ⟨d4, hd4⟩ : ∃ d, d = putD (planC (qD sec2 [] (2 + es.length + 1) r) k [cut]) 0 5 ((es.length + 1 : Nat) : Int) g x := ⟨_, rfl⟩
  rw [← hd4] at p2 p3 p4 ⊢
  obtain ⟨T, hT⟩ : ∃ T, T = tearL zsec (entRec g x) cut := ⟨_, rfl⟩
  have hz : sec2.getD (es.length + 1) [] = zsec := by
    rw [hsec2, List.getD_cons_succ, List.getD_eq_getElem?_getD, List.getElem?_append_right (by simp)]
    simp
  have hsec4 : d4.sec = rec g toll :: (es.map (entRec g) ++ T :: List.replicate (3 - es.length) zsec) := by
    rw [p4, hz, ← hT, hsec2, List.set_cons_succ, List.set_append_right _ _ (by simp), List.length_map, Nat.sub_self, List.set_cons_zero]
  rw [secs_still (d := startD d4) rfl p3 5 0 (by decide) (by show 0 + 5 ≤ d4.sec.length; rw [p4, List.length_set, hl2]; omega), scan_still]
  show ∃ ents, (scanL (none, []) ((d4.sec.drop 0).take 5), none) = _ ∧ _
  rw [List.drop_zero, List.take_of_length_le (by rw [p4, List.length_set, hl2]; omega), hsec4, scan_head g hg]
  have htorn := torn_rec g (x.1 ++ beB 8 x.2.toNat) (entRec_len hx.1) hg hg0 cut
  rw [show rec g (x.1 ++ beB 8 x.2.toNat) = entRec g x from rfl, ← hT] at htorn
  rcases htorn with h | ⟨hc, hn⟩
  · refine ⟨es ++ [x], ?_, .inl rfl⟩
    have := scan_ents g hg (es ++ [x]) [] (List.replicate (3 - es.length) zsec) (fun q hq => by
      rcases List.mem_append.1 hq with hq | hq
      · exact hes q hq
      · rw [List.mem_singleton.1 hq]; exact hx)
    rw [List.map_append, List.append_assoc] at this
    rw [h]
    rw [show (entRec g x :: List.replicate (3 - es.length) zsec) = [x].map (entRec g) ++ List.replicate (3 - es.length) zsec from rfl, this, List.nil_append, scan_zeros]
  · refine ⟨es, ?_, .inr ⟨hc, rfl⟩⟩
    rw [scan_ents g hg es [] _ hes, List.nil_append, scan_stop hn]
end Go.Proofs.Ytpkcddnclifcpaa
namespace Go.Proofs.Ytpkcddnclifcpaa
open Go.RowKit
attribute [local irreducible] wpQuiet wpAnyH
set_option linter.unusedSimpArgs false

section
variable {P : Program}
/-- A slice as a pointer to an array: the address it begins at. -/
theorem s2a {ops : Array Oper} {rest : List Oper} {o : Oper} {a : Act} {w : World} {Q : Exit → Act → World → Prop} (arr : TypeId) (x : Operand) (ho : o.op = .sliceToArrayPointer arr x) (hw : Region.wanted o (yielded ops a.tmps) = true)
    {A : Option Addr} {n cap m : Nat} {e : TypeId} (hv : a.eval x = .slice A n cap) (hu : P.underlying arr = some (.array m e)) (hn : m ≤ n)
    (h : wpList P ops Q rest (a.put o.dst (.pointer A)) w) : wpList P ops Q (o :: rest) a w :=
  wpList_step fun K hK => by
    rw [if_pos hw]
    unfold Oper.wp
    have hrun : (execOp a.eval o).run P w = .ok (.value (.pointer A)) w := by
      unfold execOp
      simp only [ho, hv, Instr.arrayAt]
      simp only [Sem.run_bind, Sem.run_pure, Result.andThen_ok, run_underlying hu, if_neg (Nat.not_lt.2 hn)]
    rw [hrun, Oper.upon_value]
    exact hK _ _ h
/-- An operation whose run is known. -/
theorem pv {ops : Array Oper} {rest : List Oper} {o : Oper} {a : Act} {w : World} {Q : Exit → Act → World → Prop} (op : Op) (_ : o.op = op) (hw : Region.wanted o (yielded ops a.tmps) = true)
    {v : Value} (hrun : (execOp a.eval o).run P w = .ok (.value v) w) (h : wpList P ops Q rest (a.put o.dst v) w) : wpList P ops Q (o :: rest) a w :=
  wpList_step fun K hK => by
    rw [if_pos hw]
    unfold Oper.wp
    rw [hrun, Oper.upon_value]
    exact hK _ _ h
end

def spX (x : Nat) : Nat := (x * 6364136223846793005 + 1442695040888963407) % 18446744073709551616
def spB (x : Nat) : Int := ((x / 8589934592 % 256 : Nat) : Int)
def spIt (x : Nat) : Nat → Nat
  | 0 => x
  | n + 1 => spX (spIt x n)
def spL (x : Nat) (n : Nat) : List Int := (List.range n).map fun j => spB (spIt x (j + 1))
theorem spL_length (x n : Nat) : (spL x n).length = n := by simp [spL]
theorem spL_bys (x n : Nat) : Bys (spL x n) := fun b hb => by
  simp only [spL, List.mem_map] at hb
  obtain ⟨j, _, rfl⟩ := hb
  unfold spB
  omega
theorem spL_succ (x n : Nat) : spL x (n + 1) = spL x n ++ [spB (spIt x (n + 1))] := by simp [spL, List.range_succ]
theorem spIt_lt {x : Nat} (h : x < 18446744073709551616) : ∀ n, spIt x n < 18446744073709551616
  | 0 => h
  | n + 1 => Nat.mod_lt _ (by omega)
theorem list_of_range32 (s : List Int) (h : s.length = 32) : s = (List.range 32).map (fun i => s.getD i 0) := by
  apply List.ext_getElem
  · simp [h]
  · intro i h1 h2
    simp [h1]
theorem built_num (s : List Int) (t : Int) (h : s.length = 32) : Try.prog.built 26 [(0, .agg (u8s s).toArray), (1, .int .i64 t)] = some (entP (s, t)).toArray := by
  rw [list_of_range32 s h]
  generalize (fun i => s.getD i 0) = D
  kernel_rfl
def numE (n : Nat) (t : Int) : List Int × Int := (spL n 32, t)
theorem numE_ok (n : Nat) (t : Int) (ht : isI64 t) : EntOk (numE n t) := ⟨⟨spL_length _ _, spL_bys _ _⟩, ht⟩

set_option maxRecDepth 100000 in
set_option maxHeartbeats 1000000 in
theorem spread_any (x n : Nat) (w : World) (hx : x < 18446744073709551616) (hn : n ≤ 100000) :
    Calls Try.prog 50 #[.int .u64 x, .int .i64 n] w fun e w' => ∃ v, e = .returned v ∧ w'.ownsRow w.heap.size 5 1 v n (u8s (spL x n)) ∧ Below w.heap.size w w' := by
  have HX := Lib.hid hx
  clear hx
  go_enter Try.func50, Try.ntmps50
  go_wp2_with fail
  go_loopw [5, 6, 7] (fun out y i wr => ∃ k : Nat, k ≤ n ∧ i = .int .i64 k ∧ y = .int .u64 (spIt x k) ∧ Hid (wr.ownsRow w.heap.size 5 1 out k (u8s (spL x k))) ∧ Hid (Below w.heap.size w wr)) (fun _ _ i _ => n - (intOf i).toNat)
  case atStart => exact ⟨0, Nat.zero_le _, rfl, rfl, Lib.hid (World.ownsRow_nil _ _ _ _), Lib.hid (Below.refl _ _)⟩
  case round =>
    obtain ⟨k, hk, rfl, rfl, HO, HB⟩ := hrel
    have hszr := HB.out.size
    rcases Nat.lt_or_ge k n with hlt | hge
    · have hb := spIt_lt HX.out k
      have k1 : IntKind.u64.wrap (IntKind.u64.wrap ((spIt x k : Int) * 6364136223846793005) + 1442695040888963407) = (spIt x (k + 1) : Int) := by
        show _ = ((spX (spIt x k) : Nat) : Int)
        unfold IntKind.wrap spX
        simp only [IntKind.signed, IntKind.bits]
        simp
      have hy := spIt_lt HX.out (k + 1)
      have HSU := Lib.hid (spL_succ x k)
      obtain ⟨y, hyd⟩ : ∃ y, y = spIt x (k + 1) := ⟨_, rfl⟩
      have HYD := Lib.hid hyd
      rw [← hyd] at k1 hy HSU
      clear hyd
      have hsh : (Int.fdiv (y : Int) 8589934592) = ((y / 8589934592 : Nat) : Int) := by rw [Int.fdiv_eq_ediv_of_nonneg _ (by omega)]; omega
      have k3 : IntKind.u8.wrap ((y / 8589934592 : Nat) : Int) = spB y := by unfold IntKind.wrap spB; simp [IntKind.signed, IntKind.bits]
      go_wp2_with (first | (refine pv (v := .int .u64 ((y : Int).fdiv 8589934592)) (Op.binOp BinOp.shr 110 (Operand.tmp 18) (Operand.const (Value.int IntKind.u64 33)) 72) rfl rfl (by kernel_rfl) ?_; rw [hsh]) | (at_builtin; refine app tByt (.tmp 17) (.tmp 21) rfl rfl (by rfl) (World.ownsRow.alloc HO.out _) (by rfl) (Sn.new wr (u8s [spB y]).toArray 5 1 1 rfl) (u8s_mem [spB y]) (by unfold maxLen; omega) (by omega) (by simp; omega) ?_; intro v3 w3 hown hgrow _; rw [List.toList_toArray, ← u8s_append] at hown; have HO3 := Lib.hid hown; have HB3 := Lib.hid ((HB.out.alloc hszr _).grown hgrow (by simp; omega) (fun g hg => (World.ownsRow.lt HO.out g hg).1)); clear hown hgrow))
      exact ⟨⟨k + 1, by omega, by go_num, by rw [HYD.out], Lib.hid (by rw [HSU.out]; exact HO3.out), HB3⟩, by simp [intOf]; omega⟩
    · obtain rfl : k = n := by omega
      go_wp2_with fail
      go_ret
      exact ⟨_, rfl, HO.out, HB.out⟩

set_option maxRecDepth 100000 in
set_option maxHeartbeats 1000000 in
theorem number17 (n : Nat) (t : Int) (w : World) (hn : n < 4294967296) (ht : isI64 t) :
    Calls Try.prog 27 #[.int .i64 n, .int .i64 t] w fun e w' => e = .returned (.agg (entP (numE n t)).toArray) ∧ Below w.heap.size w w' := by
  have HN : Hid (numE n t = (spL n 32, t)) := Lib.hid rfl
  have HSP := Lib.hid (fun w1 => spread_any n 32 w1 (by omega) (by omega))
  have h3 := spL_length n 32
  have h2 : (entP (spL n 32, t)).length = 33 := entP_length _ (numE_ok n t ht)
  rw [HN.out]
  obtain ⟨s, hs⟩ : ∃ s, s = spL n 32 := ⟨_, rfl⟩
  rw [← hs] at HSP h2 h3 ⊢
  clear hs HN ht
  have h1 : (entP (s, t)).toArray.all (·.oneCell') = true := entC_one _ _
  have HS : Hid ((u8s s).length = 32) := Lib.hid (by rw [u8s_length, h3])
  have HBL := Lib.hid (built_num s t h3)
  have hn0 : (0 : Int) ≤ n := by omega
  have hsz : zE.size = (entP (s, t)).toArray.size := by rw [zE_size, List.size_toArray, h2]
  have hsz2 : (Try.prog.info? 26).map (·.size) = some (entP (s, t)).toArray.size := by rw [List.size_toArray, h2]; kernel_rfl
  obtain ⟨E, hE⟩ : ∃ E, E = (entP (s, t)).toArray := ⟨_, rfl⟩
  rw [← hE] at h1 HBL hsz hsz2 ⊢
  clear hE h2 h3
  obtain ⟨w1, hw1⟩ : ∃ w1, w1 = w.alloc (.cells zE 26) := ⟨_, rfl⟩
  have HB1 : Hid (Below w.heap.size w w1) := Lib.hid (by rw [hw1]; exact (Below.refl _ w).alloc (Nat.le_refl _) _)
  have HE1 : Hid (Blk w1 w.heap.size 26 zE) := Lib.hid (by rw [hw1]; exact Blk.new _ _ _)
  go_enter Try.func27, Try.ntmps27
  go_wp2_with (refine al 26 _ rfl rfl zeroE ?_)
  rw [← hw1]
  clear hw1
  refine (HSP.out w1).mono ?_
  rintro e w2 ⟨v, rfl, ho, hb2⟩
  have HB2 := Lib.hid (bstep HB1.out hb2)
  have HE2 := Lib.hid (HE1.out.keep hb2)
  obtain ⟨A, cap, rfl, _, _, hx⟩ := Sn.own ho
  obtain ⟨b, off, rfl, hcell⟩ := hx (by omega)
  have HR : Hid (w2.rangeAt b off (u8s s)) := Lib.hid hcell
  clear ho hb2 hx hcell
  go_wp2_with (first
    | (refine s2a 24 _ rfl rfl rfl Try.underlying24 (by omega) ?_)
    | (refine ld 24 _ rfl rfl rfl HR.out Try.underlying24 rfl (by rw [HS.out]; kernel_rfl) ?_)
    | (refine bld 26 _ rfl rfl rfl HBL.out ?_)
    | (refine stBlk 26 (.tmp 4) (.tmp 11) rfl rfl rfl rfl HE2.out hsz2 hsz h1 ?_; intro w3 hB3 hb3 _ _; have HB3 := Lib.hid hB3; have HE3 := Lib.hid hb3; clear hB3 hb3))
  refine bodyPost_ret (results_cell_row rfl _ _ w.heap.size 26 _ (0, 0) _ rfl HB3.out Try.underlying26 rfl hsz2) rfl ⟨rfl, ?_⟩
  exact HB2.out.trans (HE3.out.mono (Nat.le_refl _))
end Go.Proofs.Ytpkcddnclifcpaa
namespace Go.Proofs.Ytpkcddnclifcpaa
open Go.RowKit

theorem mapM_of {α β : Type} {f : α → Option β} {g : α → β} : ∀ {L : List α}, (∀ x ∈ L, f x = some (g x)) → L.mapM f = some (L.map g)
  | [], _ => rfl
  | x :: L, h => by
    rw [List.mapM_cons, h x (by simp), mapM_of (fun y hy => h y (by simp [hy]))]
    rfl
theorem lits_u8 (D : Nat) (n : Int) (h : 0 ≤ n ∧ n ≤ 255) : Try.prog.keyLits (D + 1) 5 [.int .u8 n] = some [.int .u8 n] := by
  unfold Program.keyLits
  rw [Try.underlying5]
  have : (Lit.int .u8 n).wf = true := by simp [Lit.wf, IntKind.min, IntKind.max, IntKind.signed, IntKind.bits]; omega
  simp [this]
theorem lits_dig (D : Nat) {d : List Int} (h : DigOk d) : Try.prog.keyLits (D + 2) 24 (u8s d) = some (d.map (Lit.int .u8)) := by
  have hc : Try.prog.cellsOf 24 = 32 := by kernel_rfl
  have hc1 : Try.prog.cellsOf 5 = 1 := by kernel_rfl
  have hl : (u8s d).length = 32 := by simp [u8s, h.len]
  unfold Program.keyLits
  rw [Try.underlying24]
  simp only [hc, hl, hc1, if_true, Nat.mul_one]
  rw [mapM_of (g := fun i => [Lit.int .u8 (d.getD i 0)]) (fun i hi => ?_)]
  · simp only [Option.map_some, Option.some.injEq]
    have hfl : ((List.range 32).map fun i => [Lit.int .u8 (d.getD i 0)]).flatten = (List.range 32).map fun i => Lit.int .u8 (d.getD i 0) := by
      rw [← List.flatMap_def, ← List.map_eq_flatMap]
    rw [hfl]
    apply List.ext_getElem
    · simp [h.len]
    · intro i h1 h2
      have hi : i < 32 := by simpa [h.len] using h2
      simp [show i < d.length by rw [h.len]; exact hi]
  · have hi : i < 32 := by simpa using hi
    have hlt : i < d.length := by rw [h.len]; exact hi
    have e : ((u8s d).drop i).take 1 = [.int .u8 (d.getD i 0)] := by
      have hlt' : i < (u8s d).length := by rw [hl]; exact hi
      rw [List.drop_eq_getElem_cons hlt']
      simp [u8s, hlt]
    rw [e]
    exact lits_u8 D _ (h.byte _ (by simp [hlt]))
theorem lits_ent {p : List Int × Int} (hp : EntOk p) : Try.prog.keyLits 3 26 (entP p) = some (p.1.map (Lit.int .u8) ++ [Lit.int .i64 p.2]) := by
  have hc : Try.prog.cellsOf 26 = 33 := by kernel_rfl
  have hc1 : Try.prog.cellsOf 24 = 32 := by kernel_rfl
  have hc2 : Try.prog.cellsOf 2 = 1 := by kernel_rfl
  have hl := entP_length p hp
  have h32 : (u8s p.1).length = 32 := by simp [u8s, hp.dig.len]
  have e1 : (entP p).take 32 = u8s p.1 := by unfold entP entC; rw [List.take_append_of_le_length (by omega), List.take_of_length_le (by omega)]
  have e2 : ((entP p).drop 32).take 1 = [.int .i64 p.2] := by unfold entP entC; rw [List.drop_append_of_le_length (by omega), List.drop_of_length_le (by omega)]; rfl
  have k2 : Try.prog.keyLits 2 2 [.int .i64 p.2] = some [Lit.int .i64 p.2] := by
    unfold Program.keyLits
    rw [Try.underlying2]
    simp [wf_i64 hp.exp]
  unfold Program.keyLits
  rw [Try.underlying26]
  simp [hc, hl, hc1, hc2, e1, e2, lits_dig 0 hp.dig, k2]
theorem lits_inj {p q : List Int × Int} (h : p.1.map (Lit.int .u8) ++ [Lit.int .i64 p.2] = q.1.map (Lit.int .u8) ++ [Lit.int .i64 q.2]) : p = q := by
  have h1 := List.append_inj' h rfl
  have h2 : p.1 = q.1 := by
    have key : ∀ a b : List Int, a.map (Lit.int .u8) = b.map (Lit.int .u8) → a = b := by
      intro a
      induction a with
      | nil => intro b hb; cases b with
        | nil => rfl
        | cons => simp at hb
      | cons x a ih => intro b hb; cases b with
        | nil => simp at hb
        | cons y b =>
          simp only [List.map_cons, List.cons.injEq, Lit.int.injEq, true_and] at hb
          rw [hb.1, ih b hb.2]
    exact key _ _ h1.1
  have h3 : p.2 = q.2 := by simpa using h1.2
  exact Prod.ext h2 h3
set_option maxRecDepth 100000 in
theorem run_eqE {p q : List Int × Int} (hp : EntOk p) (hq : EntOk q) (w : World) : (Op.equalIn 10000 26 (.agg (entP p).toArray) (.agg (entP q).toArray)).run Try.prog w = .ok (decide (p = q)) w := by
  have hu := Try.underlying26
  have hc : Try.prog.cellsOf 26 = 33 := by kernel_rfl
  have form : ∀ x : List Int × Int, EntOk x → Value.formed Try.prog 26 (.agg (entP x).toArray) = true := fun x hx => by
    unfold Value.formed
    rw [hu]
    simp [hc, entP_length x hx]
  have cells : ∀ x : List Int × Int, (Value.agg (entP x).toArray).cells.toList = entP x := fun x => by
    show (entP x).toArray.toList = _
    simp
  obtain ⟨r, hr, hiff⟩ := run_equalIn_deep (P := Try.prog) 9997 3 26 (by kernel_rfl) w 3 3 (.agg (entP p).toArray) (.agg (entP q).toArray) _ _ (form p hp) (form q hq) (by rw [cells]; exact lits_ent hp) (by rw [cells]; exact lits_ent hq)
  rw [hr]
  congr 1
  by_cases h : p = q
  · subst h
    simpa using hiff.2 rfl
  · have : ¬ r = true := fun e => h (lits_inj (hiff.1 e))
    simpa [h] using this
end Go.Proofs.Ytpkcddnclifcpaa
namespace Go.Proofs.Ytpkcddnclifcpaa
open Go.RowKit

set_option maxRecDepth 100000 in
set_option maxHeartbeats 2000000 in
theorem same_any (va vb : Value) (l m : List (List Int × Int)) (w : World) (hs : Sn w 33 va l.length (l.flatMap entP)) (hok : ∀ p ∈ l, EntOk p) (hs' : Sn w 33 vb m.length (m.flatMap entP)) (hok' : ∀ p ∈ m, EntOk p) (hl : l.length ≤ 1000) (hm : m.length ≤ 1000) :
    Calls Try.prog 22 #[va, vb] w fun e w' => e = .returned (.bool (decide (l = m))) ∧ Below w.heap.size w w' := by
  obtain ⟨A, cap, rfl, hcap, _, _⟩ := id hs
  obtain ⟨A', cap', rfl, hcap', _, _⟩ := id hs'
  have HS := Lib.hid hs
  have HOK := Lib.hid hok
  have HS' := Lib.hid hs'
  have HOK' := Lib.hid hok'
  clear hs hok hs' hok'
  rcases Bool.eq_false_or_eq_true ((l.length : Int) != m.length) with d1 | d1
  · go_enter Try.func22, Try.ntmps22
    go_wp2_with fail
    go_ret
    have hne : l ≠ m := fun e => by subst e; simp at d1
    exact ⟨by simp [hne], Below.refl _ _⟩
  · have hlm : l.length = m.length := by simp at d1; omega
    have HLM := Lib.hid hlm
    clear hlm
    go_enter Try.func22, Try.ntmps22
    go_wp2_with fail
    go_loopw [5] (fun i wr => ∃ k : Nat, k ≤ l.length ∧ i = .int .i64 k ∧ Hid (l.take k = m.take k) ∧ Below w.heap.size w wr) (fun i _ => l.length - (intOf i).toNat)
    case atStart => exact ⟨0, Nat.zero_le _, rfl, Lib.hid rfl, Below.refl _ _⟩
    case round =>
      obtain ⟨k, hk, rfl, heqk, hb⟩ := hrel
      by_cases hlt : k < l.length
      · have hlt' : k < m.length := by rw [← HLM.out]; exact hlt
        obtain ⟨b, off, rfl, hr⟩ := at_elem entP EntOk 33 entP_length (HS.out.below hb) HOK.out k hlt
        obtain ⟨b', off', rfl, hr'⟩ := at_elem entP EntOk 33 entP_length (HS'.out.below hb) HOK'.out k hlt'
        have hr : wr.rangeAt b (off + k * 33) (entP l[k]) := hr
        have hr' : wr.rangeAt b' (off' + k * 33) (entP m[k]) := hr'
        have la := entP_length l[k] (HOK.out _ (List.getElem_mem hlt))
        have lb := entP_length m[k] (HOK'.out _ (List.getElem_mem hlt'))
        have heq := run_eqE (HOK.out l[k] (List.getElem_mem hlt)) (HOK'.out m[k] (List.getElem_mem hlt'))
        have hud := Try.underlying26
        have hua : (Try.prog.info? 26).map (·.size) = some (entP l[k]).length := by rw [la]; kernel_rfl
        have hub : (Try.prog.info? 26).map (·.size) = some (entP m[k]).length := by rw [lb]; kernel_rfl
        have hi0 : (0 : Int) ≤ k := by omega
        have hi1 : (k : Int) < l.length := by omega
        have hi2 : (k : Int) < m.length := by omega
        go_wp2_with fail
        rcases Bool.eq_false_or_eq_true (decide (l[k] = m[k])) with t1 | t1
        all_goals
          rw [t1] at heq
          refine wp_region_quiet_lit (by kernel_rfl) (by kernel_rfl) ?_
          repeat (first
            | (refine qLoad 26 (.tmp 19) rfl rfl rfl hr hud rfl hua ?_; simp only [Act.put, List.setIfInBounds_toArray, List.set_cons_zero, List.set_cons_succ])
            | (refine qLoad 26 (.tmp 23) rfl rfl rfl hr' hud rfl hub ?_; simp only [Act.put, List.setIfInBounds_toArray, List.set_cons_zero, List.set_cons_succ])
            | quiet_step (fail))
          refine wpQuiet_nil ?_
          intro w2 hw2
          obtain ⟨nq, hw3⟩ := hw2
          subst hw3
        · go_wp2_with fail
          refine ⟨⟨k + 1, by omega, by go_num, Lib.hid ?_, bdrewN hb _⟩, by simp [intOf]; omega⟩
          rw [List.take_succ_eq_append_getElem hlt, List.take_succ_eq_append_getElem hlt', heqk.out, of_decide_eq_true t1]
        · go_wp2_with fail
          go_ret
          have hne : l ≠ m := fun e => of_decide_eq_false t1 (by subst e; rfl)
          exact ⟨by simp [hne], bdrewN hb _⟩
      · obtain rfl : k = l.length := by omega
        have hall : l = m := by
          have h := heqk.out
          rw [List.take_length, HLM.out, List.take_length] at h
          exact h
        go_wp2_with fail
        go_ret
        exact ⟨by simp [hall], hb⟩
end Go.Proofs.Ytpkcddnclifcpaa
namespace Go.Proofs.Ytpkcddnclifcpaa
open Go.RowKit
attribute [local irreducible] wpQuiet wpAnyH
set_option linter.unusedSimpArgs false

theorem results_cellR2 {P : Program} {w : World} {fn : Func} {p u : Tmp} {ty ty' : TypeId} (h : fn.results = #[.cell p ty, .cell u ty']) (tmps : Array Value) {b b' : Nat} {cs ds : List Value} {d d' : TypeDesc} (hp : tmps.getD p undef = .pointer (some ⟨b, 0, none⟩)) (hp' : tmps.getD u undef = .pointer (some ⟨b', 0, none⟩)) (hc : w.rangeAt b 0 cs) (hc' : w.rangeAt b' 0 ds)
    (hu : P.underlying ty = some d) (hd : d.isRow = true) (hi : (P.info? ty).map (·.size) = some cs.length) (hu' : P.underlying ty' = some d') (hd' : d'.isRow = true) (hi' : (P.info? ty').map (·.size) = some ds.length) : (results fn tmps).run P w = .ok (.tuple #[.agg cs.toArray, .agg ds.toArray]) w := by
  have h1 : tmps[p]?.getD undef = .pointer (some ⟨b, 0, none⟩) := by simpa using hp
  have h2 : tmps[u]?.getD undef = .pointer (some ⟨b', 0, none⟩) := by simpa using hp'
  simp [results, h, h1, h2, asAddr, Sem.run_bind, Result.andThen, run_loadVar_mid w b 0 ty cs d hc hu hd hi, run_loadVar_mid w b' 0 ty' ds d' hc' hu' hd' hi']

set_option maxRecDepth 100000 in
theorem slot_halves (n : Nat) (w : World) (hn : n ≤ 1000000) :
    Calls Try.prog 8 #[.int .i64 n] w fun e w' => e = .returned (.tuple #[.agg #[.int .i64 0, .int .i64 ((n / 2 : Nat) : Int)], .agg #[.int .i64 ((n / 2 : Nat) : Int), .int .i64 ((n / 2 : Nat) : Int)]]) ∧ Below w.heap.size w w' := by
  have hn1 : (n : Int) ≤ 1000000 := by omega
  go_enter Try.func8, Try.ntmps8
  go_wp2_with fail
  have e : ((n / 2 : Nat) : Int) = (n : Int) / 2 := by simp
  rw [e]
  have hB1 := (Blk.new w 30 #[.int .i64 0, .int .i64 ((n : Int) / 2)]).alloc (.cells #[.int .i64 ((n : Int) / 2), .int .i64 ((n : Int) / 2)] 30)
  have hB2 := Blk.newAt (w.alloc (.cells #[.int .i64 0, .int .i64 ((n : Int) / 2)] 30)) 30 #[.int .i64 ((n : Int) / 2), .int .i64 ((n : Int) / 2)] (w.heap.size + 1) (by simp)
  have hbF : Below w.heap.size w ((w.alloc (.cells #[.int .i64 0, .int .i64 ((n : Int) / 2)] 30)).alloc (.cells #[.int .i64 ((n : Int) / 2), .int .i64 ((n : Int) / 2)] 30)) := ((Below.refl _ w).alloc (Nat.le_refl _) _).alloc (by simp) _
  exact bodyPost_ret (results_cellR2 rfl _ rfl rfl hB1.range hB2.range Try.underlying30 rfl (by kernel_rfl) Try.underlying30 rfl (by kernel_rfl)) rfl ⟨rfl, hbF⟩
end Go.Proofs.Ytpkcddnclifcpaa
namespace Go.Proofs.Ytpkcddnclifcpaa
open Go.RowKit
attribute [local irreducible] wpQuiet wpAnyH
set_option linter.unusedSimpArgs false

/-- The disk stands, and it was made behind w0. -/
structure St (w0 w : World) (m : DiskM) (d : DiskD) : Prop where
  dk : DK w m d
  ft : ∀ k ∈ foot m, w0.heap.size ≤ k
  bel : Below w0.heap.size w0 w
/-- A block beside the disk. -/
structure LB (w : World) (m : DiskM) (g : Nat) (t : TypeId) (cs : Array Value) : Prop where
  blk : Blk w g t cs
  nf : g ∉ foot m
/-- A row beside the disk. -/
structure LS (w : World) (m : DiskM) (s : Nat) (v : Value) (n : Nat) (xs : List Value) : Prop where
  sn : Sn w s v n xs
  nf : ∀ b, v.ownBlock = some b → b ∉ foot m ∧ b < w.heap.size
theorem St.keep {w0 w w' : World} {m : DiskM} {d : DiskD} (h : St w0 w m d) (hb : Below w.heap.size w w') : St w0 w' m d := ⟨h.dk.keep hb, h.ft, bstep h.bel hb⟩
theorem St.next {w0 w w' : World} {m m' : DiskM} {d d' : DiskD} (h : St w0 w m d) (hk : DK w' m' d') (ht : DT w m w' m') : St w0 w' m' d' :=
  ⟨hk, ht.le h.ft h.bel.size, h.bel.trans (ht.below h.ft h.bel.size)⟩
theorem St.drew {w0 w : World} {m : DiskM} {d : DiskD} (h : St w0 w m d) (n : Nat) : St w0 (w.drewN n) m d := h.keep (bdrewN (Below.refl _ _) n)
theorem LB.keep {w w' : World} {m : DiskM} {g : Nat} {t : TypeId} {cs : Array Value} (h : LB w m g t cs) (hb : Below w.heap.size w w') : LB w' m g t cs := ⟨h.blk.keep hb, h.nf⟩
theorem LB.next {w w' : World} {m m' : DiskM} {g : Nat} {t : TypeId} {cs : Array Value} (h : LB w m g t cs) (ht : DT w m w' m') : LB w' m' g t cs :=
  ⟨(ht.off h.blk.lt h.nf).trans h.blk, fun hm => by
    rcases ht.sub g hm with hm | hm
    · exact h.nf hm
    · have := h.blk.lt; omega⟩
theorem LB.old {w0 w : World} {m : DiskM} {d : DiskD} {g : Nat} {t : TypeId} {cs : Array Value} (h : St w0 w m d) (hb : Blk w0 g t cs) : LB w m g t cs :=
  ⟨hb.keep h.bel, fun hm => by have := h.ft g hm; have := hb.lt; omega⟩
theorem LB.fresh {w w' : World} {m : DiskM} {d : DiskD} {g : Nat} {t : TypeId} {cs : Array Value} (h : DK w m d) (hg : w.heap.size ≤ g) (hb : Blk w' g t cs) : LB w' m g t cs := ⟨hb, h.notFoot hg⟩
theorem Fo.sn' {F : List Nat} {w w' : World} {s n : Nat} {v : Value} {xs : List Value} (h : Fo F w w') (hs : Sn w s v n xs) (hne : ∀ b, v.ownBlock = some b → b ∉ F) : Sn w' s v n xs := h.sn hs hne
theorem LS.keep {w w' : World} {m : DiskM} {s n : Nat} {v : Value} {xs : List Value} (h : LS w m s v n xs) (hb : Below w.heap.size w w') : LS w' m s v n xs :=
  ⟨h.sn.below hb, fun b e => ⟨(h.nf b e).1, Nat.lt_of_lt_of_le (h.nf b e).2 hb.size⟩⟩
theorem LS.next {w w' : World} {m m' : DiskM} {s n : Nat} {v : Value} {xs : List Value} (h : LS w m s v n xs) (ht : DT w m w' m') : LS w' m' s v n xs :=
  ⟨ht.fo.sn h.sn (fun b e => (h.nf b e).1), fun b e => ⟨fun hm => by
    rcases ht.sub b hm with hm | hm
    · exact (h.nf b e).1 hm
    · have := (h.nf b e).2; omega, Nat.lt_of_lt_of_le (h.nf b e).2 ht.fo.size⟩⟩
theorem LS.old {w0 w : World} {m : DiskM} {d : DiskD} {s n : Nat} {v : Value} {xs : List Value} (h : St w0 w m d) (hs : Sn w0 s v n xs) (hl : ∀ b, v.ownBlock = some b → b < w0.heap.size) : LS w m s v n xs :=
  ⟨hs.below h.bel, fun b e => ⟨fun hm => by have := h.ft b hm; have := hl b e; omega, Nat.lt_of_lt_of_le (hl b e) h.bel.size⟩⟩
theorem LS.own {w w' : World} {m : DiskM} {d : DiskD} {t s n : Nat} {v : Value} {xs : List Value} (h : DK w m d) (ho : w'.ownsRow w.heap.size t s v n xs) : LS w' m s v n xs :=
  ⟨Sn.own ho, fun b e => ⟨h.notFoot (World.ownsRow.lt ho b e).1, (World.ownsRow.lt ho b e).2⟩⟩
end Go.Proofs.Ytpkcddnclifcpaa
namespace Go.Proofs.Ytpkcddnclifcpaa
open Go.RowKit
attribute [local irreducible] wpQuiet wpAnyH
set_option linter.unusedSimpArgs false
theorem code18 (o : Ans) (w : World) (h : isI64 (codeA o)) : Calls Try.prog 13 #[valE o] w fun e w' => e = .returned (.int .i64 (codeA o)) ∧ Below w.heap.size w w' := by
  obtain ⟨v, hv⟩ : ∃ v, v = valE o := ⟨_, rfl⟩
  have HC := Lib.hid (code_val o w)
  rw [← hv] at HC ⊢
  obtain ⟨c, hc⟩ : ∃ c, c = codeA o := ⟨_, rfl⟩
  rw [← hc] at HC h ⊢
  have h1 : -9223372036854775808 ≤ c := h.1
  have h2 : c ≤ 9223372036854775807 := h.2
  clear hv hc h
  go_enter Try.func13, Try.ntmps13
  go_wp2_with (go_at_call 31; refine HC.out.mono ?_; rintro e w1 ⟨rfl, hb⟩; have HB := Lib.hid hb; clear hb)
  go_ret
  exact ⟨rfl, HB.out⟩
end Go.Proofs.Ytpkcddnclifcpaa
