import Derived.Test.YtillkpjflcgkeaaGreatMT11
import Derived.Test.YtillkpjflcgkeaaGreatMT7
import Derived.Test.YtillkpjflcgkeaaGreatMT9
import Derived.Test.YtillkpjflcgkeaaGreatMT15
import Derived.Test.YtillkpjflcgkeaaGreatMT13
import Derived.Test.YtillkpjflcgkeaaGreatMT3
import Derived.Test.YtillkpjflcgkeaaGreatMT10
import Derived.Laws.OwnMore
set_option linter.unusedSimpArgs false
set_option maxRecDepth 100000
namespace Go.Proofs.YtillkpjflcgkeaaGreat
open Go.RowKit
attribute [local irreducible] wpQuiet wpAnyH
theorem beN_foldl (l : List Int) : ∀ x, l.foldl (fun x c => x * 256 + c.toNat) x = x * 256 ^ l.length + beN l := by
 induction l with
 | nil => intro x; simp [beN]
 | cons c l ih =>
  intro x
  rw [List.foldl_cons, ih, show beN (c :: l) = (c :: l).foldl (fun x c => x * 256 + c.toNat) 0 from rfl, List.foldl_cons, ih, List.length_cons, Nat.pow_succ, Nat.zero_mul, Nat.zero_add]
  rw [Nat.add_mul, Nat.mul_assoc, Nat.mul_comm 256, Nat.add_assoc]
theorem beN_cons (c : Int) (l : List Int) : beN (c :: l) = c.toNat * 256 ^ l.length + beN l := by
 rw [show beN (c :: l) = (c :: l).foldl (fun x c => x * 256 + c.toNat) 0 from rfl, List.foldl_cons, beN_foldl, Nat.zero_mul, Nat.zero_add]
theorem beN_beB : ∀ k x, beN (beB k x) = x % 256 ^ k
 | 0, x => by simp [beN, beB, Nat.mod_one]
 | m + 1, x => by
  rw [beB, beN_cons, beN_beB m x, beB_length, Nat.mod_pow_succ, Int.toNat_natCast, Nat.mul_comm, Nat.add_comm]
theorem body_eq (p : List Int) (h : p.length ≤ 54) : (body p).take 56 = beB 2 p.length ++ (p ++ List.replicate (54 - p.length) 0) := by
 unfold body pad
 rw [List.append_assoc, List.length_append, beB_length]
 rw [show 64 - (2 + p.length) = (54 - p.length) + 8 by omega, ← List.replicate_append_replicate, ← List.append_assoc p, ← List.append_assoc (beB 2 p.length)]
 rw [List.take_left' (by simp [beB_length]; omega)]
theorem rec_parts (g : Nat) (p : List Int) (h : p.length ≤ 54) : ∃ A C : List Int, A = beB 2 p.length ++ (p ++ List.replicate (54 - p.length) 0) ∧ A.length = 56 ∧ C = beB 4 (crcSum (A ++ beB 4 g)) ∧ rec g p = A ++ (C ++ beB 4 g) := by
 refine ⟨_, _, rfl, by simp [beB_length]; omega, rfl, ?_⟩
 unfold rec
 rw [body_eq p h]
theorem zeros_rep (n : Nat) : zeros (List.replicate n 0) = true := by
 unfold zeros
 rw [List.all_eq_true]
 intro c hc
 rw [(List.mem_replicate.1 hc).2]
 rfl
theorem rec_drop60 (g : Nat) (p : List Int) (h : p.length ≤ 54) : (rec g p).drop 60 = beB 4 g := by
 obtain ⟨A, C, _, hA, hC, hr⟩ := rec_parts g p h
 have hc : C.length = 4 := by rw [hC, beB_length]
 rw [hr, ← List.append_assoc, List.drop_left' (by simp [hA, hc])]
theorem prs_rec (g : Nat) (p : List Int) (h : p.length ≤ 54) (hg : g < 4294967296) : prs (rec g p) = some (g, p) := by
 obtain ⟨A, C, hAd, hA, hC, hr⟩ := rec_parts g p h
 have hc : C.length = 4 := by rw [hC, beB_length]
 have h4 := beB_length 4 g
 have e1 : (rec g p).take 2 = beB 2 p.length := by
  rw [hr, List.take_append_of_le_length (by omega), hAd, List.take_left' (beB_length 2 _)]
 have e2 : (rec g p).drop 2 = p ++ (List.replicate (54 - p.length) 0 ++ (C ++ beB 4 g)) := by
  rw [hr, hAd, List.append_assoc, List.drop_left' (beB_length 2 _), List.append_assoc]
 have n1 : beN (beB 2 p.length) = p.length := by rw [beN_beB]; exact Nat.mod_eq_of_lt (by omega)
 have e3 : (rec g p).drop (2 + p.length) = List.replicate (54 - p.length) 0 ++ (C ++ beB 4 g) := by
  rw [← List.drop_drop, e2, List.drop_left]
 have e4 : (rec g p).drop 56 = C ++ beB 4 g := by rw [hr, List.drop_left' hA]
 have e5 := rec_drop60 g p h
 have e6 : (rec g p).take 56 = A := by rw [hr, List.take_left' hA]
 have n2 : beN C = crcSum (A ++ beB 4 g) := by rw [hC, beN_beB]; exact Nat.mod_eq_of_lt (crcSum_lt _)
 have n3 : beN (beB 4 g) = g := by rw [beN_beB]; exact Nat.mod_eq_of_lt (by omega)
 unfold prs
 rw [e1, n1, e3, e4, e5, e6, if_neg (by omega), List.take_left' (by simp), zeros_rep, List.take_left' hc, n2, List.take_of_length_le (by omega), n3, e2, List.take_left]
 simp
theorem prsH_rec (g : Nat) (hg : g < 4294967296) : prsH (rec g toll) = some g := by
 unfold prsH
 rw [prs_rec g toll (by decide) hg]
 simp
theorem prsE_rec (g : Nat) (q : List Int × Int) (hq : EntOk q) (hr : rightE q = true) (hg : g < 4294967296) : prsE (entRec g q) = some (g, q) := by
 have h32 := hq.dig.len
 have hr' : 0 ≤ q.2 ∧ q.2 ≤ 4611686018427387904 := by unfold rightE at hr; simpa using hr
 unfold prsE entRec
 rw [prs_rec g _ (by rw [List.length_append, h32, beB_length]; omega) hg]
 have n1 : beN (beB 8 q.2.toNat) = q.2.toNat := by rw [beN_beB]; exact Nat.mod_eq_of_lt (by omega)
 simp only [List.drop_left' h32, List.take_left' h32, n1, List.length_append, h32, beB_length]
 rw [if_pos ⟨by decide, by omega⟩]
 rw [show ((q.2.toNat : Nat) : Int) = q.2 by omega]
theorem prs_gen {s : List Int} {g : Nat} {p : List Int} (h : prs s = some (g, p)) : g = beN ((s.drop 60).take 4) := by
 unfold prs at h
 split at h
 ·cases h
 ·split at h
  ·cases h
  ·split at h
   ·cases h
   ·injection h with h; injection h with h _; exact h.symm
theorem prsE_gen {s : List Int} {g : Nat} {e : List Int × Int} (h : prsE s = some (g, e)) : g = beN ((s.drop 60).take 4) := by
 unfold prsE at h
 split at h
 ·cases h
 ·rename_i g' p h1
  split at h
  ·injection h with h; injection h with h _; rw [← h]; exact prs_gen h1
  ·cases h
theorem beN_zeros (n : Nat) : beN (List.replicate n 0) = 0 := by
 induction n with
 | zero => rfl
 | succ n ih => rw [List.replicate_succ, beN_cons, ih]; simp
theorem prs_zsec {g : Nat} {p : List Int} (h : prs zsec = some (g, p)) : p = [] := by
 unfold prs at h
 rw [show zsec.take 2 = List.replicate 2 0 by unfold zsec; rw [List.take_replicate]; rfl, beN_zeros] at h
 split at h
 ·cases h
 ·split at h
  ·cases h
  ·split at h
   ·cases h
   ·injection h with h; injection h with _ h; rw [← h, List.take_zero]
theorem prsH_zsec : prsH zsec = none := by
 unfold prsH
 split
 ·rename_i g p h
  rw [prs_zsec h, if_neg (by decide)]
 ·rfl
theorem tearL_all {old data : List Int} (c : Int) (ho : old.length = 64) (hd : data.length = 64) (h : 64 ≤ c) : tearL old data c = data := by
 unfold tearL
 rw [show cutN c = 64 by unfold cutN; omega, List.take_of_length_le (by omega), List.drop_eq_nil_of_le (by omega), List.append_nil]
def qD (sec : List (List Int)) (opn : List (Int × List Int)) (st r : Nat) : DiskD := { sec := sec, opn := opn, down := false, steps := st, fl := fun _ => false, cr := fun _ => none, room := r }
theorem newD_q (n : Nat) : newD n = qD (List.replicate n zsec) [] 0 0 := rfl
theorem stepped_q (sec : List (List Int)) (opn : List (Int × List Int)) (st r : Nat) : stepped (qD sec opn st r) = qD sec opn (st + 1) (max r (st + 1)) := by
 unfold stepped qD
 simp
theorem outS_q (sec : List (List Int)) (opn : List (Int × List Int)) (st r : Nat) : outS (qD sec opn st r) = 0 := rfl
theorem has_q {sec : List (List Int)} {opn : List (Int × List Int)} {st r : Nat} {a : Int} (h : 0 ≤ a) (h' : a < sec.length) : hasB (qD sec opn st r) a = true := by
 unfold hasB
 rw [decide_eq_true h, Bool.true_and]
 exact decide_eq_true h'
theorem writeA_q {sec : List (List Int)} {opn : List (Int × List Int)} {st r : Nat} {a : Int} (h : 0 ≤ a) (h' : a < sec.length) : writeA (qD sec opn st r) a = none := by
 unfold writeA
 rw [outS_q, has_q h h']
 rfl
theorem writeD_q {sec : List (List Int)} {opn : List (Int × List Int)} {st r : Nat} {a : Int} (h : 0 ≤ a) (h' : a < sec.length) (s : List Int) : writeD (qD sec opn st r) a s = qD sec (opn ++ [(a, s)]) (st + 1) (max r (st + 1) + 1) := by
 unfold writeD
 rw [outS_q, stepped_q]
 unfold addIf
 rw [has_q h h']
 rfl
theorem syncA_q (sec : List (List Int)) (opn : List (Int × List Int)) (st r : Nat) : syncA (qD sec opn st r) = none := rfl
theorem syncS_q (sec : List (List Int)) (opn : List (Int × List Int)) (st r : Nat) : syncS (qD sec opn st r) = qD (syncN sec opn opn.length) [] (st + 1) (max r (st + 1)) := by
 unfold syncS
 rw [outS_q, stepped_q]
 rfl
theorem wsA_q {sec : List (List Int)} {opn : List (Int × List Int)} {st r : Nat} {a : Int} (h : 0 ≤ a) (h' : a < sec.length) (s : List Int) : wsA (qD sec opn st r) a s = none := by
 unfold wsA
 rw [writeA_q h h', writeD_q h h']
 rfl
theorem wsD_q {sec : List (List Int)} {st r : Nat} {a : Int} (h : 0 ≤ a) (h' : a < sec.length) (s : List Int) : ∃ r', st + 2 ≤ r' ∧ r' ≤ max r (st + 2) + 1 ∧ wsD (qD sec [] st r) a s = qD (sec.set a.toNat s) [] (st + 2) r' := by
 refine ⟨max (max r (st + 1) + 1) (st + 2), by omega, by omega, ?_⟩
 unfold wsD
 rw [writeA_q h h', writeD_q h h']
 show syncS _ = _
 rw [syncS_q]
 rfl
theorem secs_still {d : DiskD} (hd : d.down = false) (ho : d.opn = []) : ∀ (n : Nat) (a : Int), 0 ≤ a → a.toNat + n ≤ d.sec.length → secsL d a n = ((d.sec.drop a.toNat).take n).map (fun s => (s, none))
 | 0, a, _, _ => by simp [secsL]
 | n + 1, a, h0, h => by
  have hlt : a.toNat < d.sec.length := by omega
  have hh : hasB d a = true := by unfold hasB; simp; omega
  have e1 : rdA d a = none := by unfold rdA; rw [hd, hh]; rfl
  have e2 : rdS d a = d.sec[a.toNat] := by
   unfold rdS
   rw [hd, hh]
   show rdD d a = _
   unfold rdD
   rw [ho]
   simp [hlt]
  rw [secsL, e1, if_pos rfl, e2, secs_still hd ho n (a + 1) (by omega) (by omega), List.drop_eq_getElem_cons hlt, List.take_succ_cons, List.map_cons, show (a + 1).toNat = a.toNat + 1 by omega]
def scanL : SSt → List (List Int) → SSt
 | st, [] => st
 | st, s :: r => match stepS st s with | some st' => scanL st' r | none => st
theorem scan_still : ∀ (L : List (List Int)) (st : SSt), scanR st (L.map (fun s => (s, none))) = (scanL st L, none)
 | [], st => rfl
 | s :: r, st => by
  rw [List.map_cons]
  unfold scanR scanL
  cases h : stepS st s with
  | none => rfl
  | some st' => exact scan_still r st'
theorem scan_head (g : Nat) (hg : g < 4294967296) (L : List (List Int)) : scanL (none, []) (rec g toll :: L) = scanL (some g, []) L := by
 rw [scanL]
 unfold stepS
 simp only [prsH_rec g hg, Option.map_some]
theorem scan_ents (g : Nat) (hg : g < 4294967296) : ∀ (qs : List Ent2) (es : List Ent2) (L : List (List Int)), (∀ q ∈ qs, EntOk q ∧ rightE q = true) → scanL (some g, es) (qs.map (entRec g) ++ L) = scanL (some g, es ++ qs) L
 | [], es, L, _ => by simp
 | q :: qs, es, L, h => by
  have hq := h q (by simp)
  rw [List.map_cons, List.cons_append, scanL]
  unfold stepS
  simp only [prsE_rec g q hq.1 hq.2 hg, if_true]
  rw [scan_ents g hg qs _ L (fun x hx => h x (by simp [hx])), List.append_assoc]
  rfl
theorem scan_stop {g : Nat} {es : List Ent2} {s : List Int} {L : List (List Int)} (h : ∀ g' e, prsE s = some (g', e) → g' ≠ g) : scanL (some g, es) (s :: L) = (some g, es) := by
 rw [scanL]
 unfold stepS
 cases hp : prsE s with
 | none => rfl
 | some x =>
  obtain ⟨g', e⟩ := x
  simp only [if_neg (h g' e hp)]
theorem scan_longer (g : Nat) : ∀ (L : List (List Int)) (es : List Ent2), ∃ more, scanL (some g, es) L = (some g, es ++ more) ∧ more.length ≤ L.length
 | [], es => ⟨[], by simp [scanL], Nat.le_refl _⟩
 | s :: L, es => by
  rw [scanL]
  unfold stepS
  cases hp : prsE s with
  | none => exact ⟨[], by simp, by simp⟩
  | some x =>
   obtain ⟨g', e⟩ := x
   by_cases hg : g' = g
   ·obtain ⟨m, hm, hl⟩ := scan_longer g L (es ++ [e])
    refine ⟨e :: m, ?_, by simp; omega⟩
    simp only [if_pos hg, hm, List.append_assoc, List.singleton_append]
   ·refine ⟨[], ?_, by simp⟩
    simp only [if_neg hg, List.append_nil]
set_option maxHeartbeats 2000000 in
theorem ref17_sum (s : List Int) (w : World) (hl : s.length = 64) (hb : Bys s) :
  Calls Tryz.prog 52 #[.agg (u8s s).toArray] w fun e w' => e = .returned (.int .u32 (crcSum (s.take 56 ++ s.drop 60))) ∧ Below w.heap.size w w' := by
 have hB1 : Blk (w.alloc (.cells (u8s s).toArray 72)) w.heap.size 72 (u8s s).toArray := Blk.new _ _ _
 have hb1 : Below w.heap.size w (w.alloc (.cells (u8s s).toArray 72)) := bel1 _ _
 obtain ⟨w1, hw1⟩ : ∃ w1, w1 = w.alloc (.cells (u8s s).toArray 72) := ⟨_, rfl⟩
 rw [← hw1] at hB1 hb1
 have HA : Hid (Sn w1 1 (.slice (some ⟨w.heap.size, 0, none⟩) 56 64) 56 (u8s (s.take 56))) := jz (by
  have := Sn.of_blk hB1 0 56 64 (by omega) (by omega)
  rw [List.drop_zero] at this
  exact this)
 have HC : Hid (Sn w1 1 (.slice (some ⟨w.heap.size, 60, none⟩) 4 4) 4 (u8s (s.drop 60))) := jz (by
  have := Sn.of_blk hB1 60 4 4 (by omega) (by omega)
  rw [List.take_of_length_le (by rw [List.length_drop]; omega)] at this
  exact this)
 have HB1 := Lib.hid hb1
 have hsz := hb1.size
 have HLT : Hid (w.heap.size < w1.heap.size) := Lib.hid hB1.lt
 clear hB1 hb1
 have HL : Hid ((s.take 56 ++ s.drop 60).length = 60 ∧ Bys (s.take 56 ++ s.drop 60)) := Lib.hid ⟨by simp [hl], fun b h => by
  rcases List.mem_append.1 h with h | h
  ·exact hb b (List.mem_of_mem_take h)
  ·exact hb b (List.mem_of_mem_drop h)⟩
 clear hl hb
 have hown0 : (w1.alloc (.cells #[] 5)).ownsRow w1.heap.size 5 1 (.slice (some ⟨w1.heap.size, 0, none⟩) 0 0) 0 [] := own_new w1 #[] 5 1 0 w1.heap.size _ (Nat.le_refl _) rfl (by decide) rfl
 go_enter Tryz.func52, Tryz.ntmps52
 go_upto_region 1 with fail
 rw [← hw1]
 clear hw1
 go_wp2_with (first
  | (at_builtin; refine app tByt (.tmp 4) (.tmp 5) rfl rfl rfl hown0 rfl (HA.out.alloc _) (u8s_mem _) (by unfold maxLen; omega) (by omega) (by simp) ?_; intro v3 w3 hown hgrow _; rw [List.nil_append] at hown; obtain ⟨A3, c3, rfl, _, _, _⟩ := id (Sn.own hown); have HO3 := Lib.hid hown; have HB3 : Hid (Below w1.heap.size w1 w3) := jz ((bel1 w1 _).grown hgrow (by simp) (fun g hg => by cases hg; exact Nat.le_refl _)); clear hown hgrow)
  | (at_builtin; refine app tByt (.tmp 7) (.tmp 8) rfl rfl rfl HO3.out rfl (HC.out.below HB3.out) (u8s_mem _) (by unfold maxLen; omega) (by omega) HB3.out.size ?_; intro v4 w4 hown hgrow _; rw [← u8s_append] at hown; obtain ⟨A4, c4, rfl, _, _, _⟩ := id (Sn.own hown); have HO4 := Lib.hid hown; have HB4 : Hid (Below w1.heap.size w1 w4) := jz (HB3.out.grown hgrow HB3.out.size (fun g hg => (World.ownsRow.lt HO3.out g hg).1)); clear hown hgrow))
 refine (ref_sum (s.take 56 ++ s.drop 60) _ w4 (by rw [HL.out.1]; exact Sn.own HO4.out) HL.out.2 (by rw [HL.out.1]; omega)).mono ?_
 rintro e w5 ⟨rfl, hb5⟩
 have HB5 := jz (bstep (bstep HB1.out HB4.out) hb5)
 clear hb5
 go_wp2_with fail
 go_ret
 exact ⟨rfl, HB5.out⟩
theorem sec_at {s : List Int} (hl : s.length = 64) (hb : Bys s) (i : Nat) (hi : i < 64) : ∃ c : Nat, c < 256 ∧ s[i]? = some (c : Int) := by
 have := hb (s[i]'(by omega)) (List.getElem_mem _)
 exact ⟨(s[i]'(by omega)).toNat, by omega, by rw [List.getElem?_eq_getElem (by omega)]; congr 1; omega⟩
theorem sec_four {s : List Int} (hl : s.length = 64) (hb : Bys s) (i : Nat) (hi : i + 4 ≤ 64) : ∃ a b c d : Nat, a < 256 ∧ b < 256 ∧ c < 256 ∧ d < 256 ∧ s[i]? = some (a : Int) ∧ s[i + 1]? = some (b : Int) ∧ s[i + 2]? = some (c : Int) ∧ s[i + 3]? = some (d : Int) ∧ beN ((s.drop i).take 4) = a * 16777216 + b * 65536 + c * 256 + d := by
 obtain ⟨a, ha, ea⟩ := sec_at hl hb i (by omega)
 obtain ⟨b, hb', eb⟩ := sec_at hl hb (i + 1) (by omega)
 obtain ⟨c, hc, ec⟩ := sec_at hl hb (i + 2) (by omega)
 obtain ⟨d, hd, ed⟩ := sec_at hl hb (i + 3) (by omega)
 refine ⟨a, b, c, d, ha, hb', hc, hd, ea, eb, ec, ed, ?_⟩
 have e : (s.drop i).take 4 = [(a : Int), b, c, d] := by
  apply List.ext_getElem?
  intro j
  rw [List.getElem?_take, List.getElem?_drop]
  match j with
  | 0 => simpa using ea
  | 1 => simpa using eb
  | 2 => simpa using ec
  | 3 => simpa using ed
  | j + 4 => simp; omega
 rw [e, beN_cons, beN_cons, beN_cons, beN_cons]
 simp only [List.length_cons, List.length_nil, Int.toNat_natCast]
 show _ + (_ + (_ + (_ + 0))) = _
 omega
theorem u8s_at {s : List Int} {i : Nat} {c : Int} (h : s[i]? = some c) : (u8s s)[i]? = some (.int .u8 c) := by simp [u8s, h]
set_option maxHeartbeats 2000000 in
theorem ref17_tag (s : List Int) (w : World) (hl : s.length = 64) (hb : Bys s) :
  Calls Tryz.prog 92 #[.agg (u8s s).toArray] w fun e w' => e = .returned (.int .u32 (beN ((s.drop 60).take 4))) ∧ Below w.heap.size w w' := by
 have hB1 : Blk (w.alloc (.cells (u8s s).toArray 72)) w.heap.size 72 (u8s s).toArray := Blk.new _ _ _
 have hb1 : Below w.heap.size w (w.alloc (.cells (u8s s).toArray 72)) := bel1 _ _
 obtain ⟨w1, hw1⟩ : ∃ w1, w1 = w.alloc (.cells (u8s s).toArray 72) := ⟨_, rfl⟩
 rw [← hw1] at hB1 hb1
 obtain ⟨a, b, c, d, ha, hb', hc, hd, ea, eb, ec, ed, hN⟩ := sec_four hl hb 60 (by omega)
 rw [hN]
 have hul : (u8s s).length = 64 := by rw [u8s_length, hl]
 have k1 : w1.cell? ⟨w.heap.size, 60, none⟩ = some (.int .u8 (a : Nat)) := by rw [hB1.cell 60, List.getElem?_toArray]; exact u8s_at ea
 have k2 : w1.cell? ⟨w.heap.size, 61, none⟩ = some (.int .u8 (b : Nat)) := by rw [hB1.cell 61, List.getElem?_toArray]; exact u8s_at eb
 have k3 : w1.cell? ⟨w.heap.size, 62, none⟩ = some (.int .u8 (c : Nat)) := by rw [hB1.cell 62, List.getElem?_toArray]; exact u8s_at ec
 have k4 : w1.cell? ⟨w.heap.size, 63, none⟩ = some (.int .u8 (d : Nat)) := by rw [hB1.cell 63, List.getElem?_toArray]; exact u8s_at ed
 have HB1 := Lib.hid hb1
 clear hB1 hb1 ea eb ec ed hN hl hb
 go_enter Tryz.func92, Tryz.ntmps92
 go_upto_region 1 with fail
 rw [← hw1]
 clear hw1
 go_wp2_with fail
 go_ret
 exact ⟨congrArg (fun z => Ending.returned (Value.int .u32 z)) (by omega), HB1.out⟩
set_option maxHeartbeats 2000000 in
theorem ref_putNumber (x : Nat) (w : World) (hx : x < 18446744073709551616) :
  Calls Tryz.prog 53 #[.int .i64 8, .int .u64 x] w fun e w' => ∃ v, e = .returned (.tuple #[v, .bool true]) ∧ w'.ownsRow w.heap.size 5 1 v 8 (u8s (beB 8 x)) ∧ Below w.heap.size w w' := by
 have HX := Lib.hid hx
 clear hx
 go_enter Tryz.func53, Tryz.ntmps53
 go_wp2_with fail
 go_loopw [1, 6, 7] (fun y out i wr => ∃ k : Nat, k ≤ 8 ∧ i = .int .i64 k ∧ y = .int .u64 ((x / 256 ^ k : Nat) : Int) ∧ Hid (wr.ownsRow w.heap.size 5 1 out k (u8s (beB k x))) ∧ Hid (Below w.heap.size w wr)) (fun _ _ i _ => 8 - (intOf i).toNat)
 case atStart => exact ⟨0, Nat.zero_le _, rfl, by simp, jz (World.ownsRow_nil _ _ _ _), jz (Below.refl _ _)⟩
 case round =>
  obtain ⟨k, hk, rfl, rfl, HO, HB⟩ := hrel
  have hszr := HB.out.size
  rcases Nat.lt_or_ge k 8 with hlt | hge
  ·obtain ⟨y, hy⟩ : ∃ y, y = x / 256 ^ k := ⟨_, rfl⟩
   have hy2 : x / 256 ^ (k + 1) = y / 256 := by rw [Nat.pow_succ, ← Nat.div_div_eq_div_mul, hy]
   have hyl : y < 18446744073709551616 := by rw [hy]; exact Nat.lt_of_le_of_lt (Nat.div_le_self _ _) HX.out
   have HBS : Hid (beB (k + 1) x = ((y % 256 : Nat) : Int) :: beB k x) := jz (by rw [hy]; rfl)
   have HY2 := Lib.hid hy2
   rw [← hy]
   clear hy hy2
   obtain ⟨A3, c3, rfl, _, _, _⟩ := id (Sn.own HO.out)
   have k3 : IntKind.u8.wrap ((y : Int) % 256) = (y : Int) % 256 := by unfold IntKind.wrap; simp [IntKind.signed, IntKind.bits]
   go_wp2_with (at_builtin; refine app tByt (.tmp 22) (.tmp 23) rfl rfl (by rfl) (World.ownsRow_lit wr #[.int .u8 ((y : Int) % 256)] 1 hszr (by decide) rfl) (by rfl) (HO.out |> fun h => (Sn.own h).alloc _) (u8s_mem _) (by unfold maxLen; omega) (by omega) (by simp; omega) ?_; intro v3 w3 hown hgrow _; have HO3 := Lib.hid hown; have HB3 := jz ((HB.out.alloc hszr _).grown hgrow (by simp; omega) (fun g hg => by cases hg; simp; omega)); clear hown hgrow)
   exact ⟨⟨k + 1, by omega, by go_num, by rw [HY2.out]; simp, jz (by rw [HBS.out, Nat.add_comm k 1]; exact HO3.out), HB3⟩, by simp [intOf]; omega⟩
  ·obtain rfl : k = 8 := by omega
   have h0 : ((x / 256 ^ 8 : Nat) : Int) = 0 := by rw [Nat.div_eq_of_lt (by have := HX.out; omega)]; rfl
   rw [h0]
   go_wp2_with fail
   go_ret2
   exact ⟨_, rfl, HO.out, HB.out⟩
set_option maxHeartbeats 2000000 in
theorem ref_payload (q : Ent2) (w : World) (hq : EntOk q) (hr : rightE q = true) :
  Calls Tryz.prog 27 #[.agg (entP q).toArray] w fun e w' => ∃ v, e = .returned v ∧ w'.ownsRow w.heap.size 5 1 v 40 (u8s (q.1 ++ beB 8 q.2.toNat)) ∧ Below w.heap.size w w' := by
 have hr' : 0 ≤ q.2 ∧ q.2 ≤ 4611686018427387904 := by unfold rightE at hr; simpa using hr
 obtain ⟨x, hx⟩ : ∃ x : Nat, q.2 = x := ⟨q.2.toNat, by omega⟩
 have hx2 : x ≤ 4611686018427387904 := by omega
 rw [hx, Int.toNat_natCast]
 have hB1 : Blk (w.alloc (.cells (entP q).toArray 43)) w.heap.size 43 (entP q).toArray := Blk.new _ _ _
 have hb1 : Below w.heap.size w (w.alloc (.cells (entP q).toArray 43)) := bel1 _ _
 obtain ⟨w1, hw1⟩ : ∃ w1, w1 = w.alloc (.cells (entP q).toArray 43) := ⟨_, rfl⟩
 rw [← hw1] at hB1 hb1
 have HD := jz (sn_dig hB1 hq)
 have h32 := hq.dig.len
 have hc : w1.cell? ⟨w.heap.size, 32, none⟩ = some (.int .i64 (x : Int)) := by
  rw [hB1.cell 32, List.getElem?_toArray, ← hx]
  unfold entP entC
  rw [List.getElem?_append_right (by rw [u8s_length, h32]; omega), u8s_length, h32]
  rfl
 have HB1 := Lib.hid hb1
 have HLT : Hid (w.heap.size < w1.heap.size) := Lib.hid hB1.lt
 have k1 : IntKind.u64.wrap (x : Int) = x := by unfold IntKind.wrap; simp [IntKind.signed, IntKind.bits]; omega
 have hx0 : (0 : Int) ≤ x := by omega
 clear hB1 hb1 hr hr' hx
 go_enter Tryz.func27, Tryz.ntmps27
 go_upto_region 1 with fail
 rw [← hw1]
 clear hw1
 go_wp2_with fail
 refine (ref_putNumber x w1 (by omega)).mono ?_
 rintro e w2 ⟨v2, rfl, ho2, hb2⟩
 obtain ⟨A2, c2, rfl, _, _, _⟩ := id (Sn.own ho2)
 have HO2 := Lib.hid ho2
 have HB2 := jz (bstep HB1.out hb2)
 have HD2 : Hid (Sn w2 1 (.slice (some ⟨w.heap.size, 0, none⟩) 32 32) 32 (u8s q.1)) := jz (HD.out.below hb2)
 have hlt : w.heap.size ≤ w2.heap.size := HB2.out.size
 have hown0 : (w2.alloc (.cells #[] 5)).ownsRow w2.heap.size 5 1 (.slice (some ⟨w2.heap.size, 0, none⟩) 0 0) 0 [] := own_new w2 #[] 5 1 0 w2.heap.size _ (Nat.le_refl _) rfl (by decide) rfl
 clear ho2 hb2 HD hc
 go_wp2_with (first
  | (at_builtin; refine app tByt (.tmp 12) (.tmp 14) rfl rfl rfl hown0 rfl (HD2.out.alloc _) (u8s_mem _) (by unfold maxLen; omega) (by omega) (by simp) ?_; intro v3 w3 hown hgrow _; rw [List.nil_append] at hown; obtain ⟨A3, c3, rfl, _, _, _⟩ := id (Sn.own hown); have HO3 := Lib.hid hown; have HB3 : Hid (Below w2.heap.size w2 w3) := jz ((bel1 w2 _).grown hgrow (by simp) (fun g hg => by cases hg; exact Nat.le_refl _)); clear hown hgrow)
  | (at_builtin; refine app tByt (.tmp 15) (.tmp 16) rfl rfl rfl HO3.out rfl ((Sn.own HO2.out).below HB3.out) (u8s_mem _) (by unfold maxLen; omega) (by omega) HB3.out.size ?_; intro v4 w4 hown hgrow _; rw [← u8s_append] at hown; have HO4 := Lib.hid hown; have HB4 : Hid (Below w2.heap.size w2 w4) := jz (HB3.out.grown hgrow HB3.out.size (fun g hg => (World.ownsRow.lt HO3.out g hg).1)); clear hown hgrow))
 go_ret
 exact ⟨_, rfl, own_base HO4.out hlt, bstep HB2.out HB4.out⟩
def mk1 (p : List Int) (k : Nat) : List Int := beB 2 p.length ++ (p.take k ++ List.replicate (62 - k) 0)
def mk2 (p : List Int) (g k : Nat) : List Int := (body p).take (64 - k) ++ beB k g
def mk3 (p : List Int) (g k : Nat) : List Int := (body p).take (60 - k) ++ (beB k (crcSum ((body p).take 56 ++ beB 4 g)) ++ beB 4 g)
theorem mk1_len (p : List Int) (k : Nat) (h : k ≤ p.length) (hp : p.length ≤ 54) : (mk1 p k).length = 64 := by unfold mk1; simp [beB_length]; omega
theorem mk2_len (p : List Int) (g k : Nat) (h : k ≤ 4) (hp : p.length ≤ 54) : (mk2 p g k).length = 64 := by unfold mk2; simp [beB_length, body_length p hp]; omega
theorem mk3_len (p : List Int) (g k : Nat) (h : k ≤ 4) (hp : p.length ≤ 54) : (mk3 p g k).length = 64 := by unfold mk3; simp [beB_length, body_length p hp]; omega
theorem mk1_next (p : List Int) (k : Nat) (h : k < p.length) (hp : p.length ≤ 54) : (mk1 p k).set (2 + k) p[k] = mk1 p (k + 1) := by
 unfold mk1
 rw [List.set_append_right _ _ (by rw [beB_length]; omega), beB_length, show 2 + k - 2 = k by omega, List.set_append_right _ _ (by simp; omega), List.length_take, Nat.min_eq_left (by omega), Nat.sub_self, show 62 - k = (62 - (k + 1)) + 1 by omega, List.replicate_succ, List.set_cons_zero, List.take_succ_eq_append_getElem h, List.append_assoc]
 rfl
theorem mk1_zero (p : List Int) (hp : p.length ≤ 54) : zsec.set 1 (p.length : Int) = mk1 p 0 := by
 unfold mk1 zsec
 rw [List.take_zero, List.nil_append]
 have e : beB 2 p.length = [0, (p.length : Int)] := by
  simp only [beB]
  rw [show p.length / 256 ^ 1 % 256 = 0 by omega, show p.length / 256 ^ 0 % 256 = p.length by omega]
  rfl
 rw [e]
 rfl
theorem mk1_end (p : List Int) (hp : p.length ≤ 54) : mk1 p p.length = mk2 p 0 0 := by
 unfold mk1 mk2 body pad
 rw [List.take_length, beB, List.append_nil, List.take_of_length_le (by simp [beB_length]; omega)]
 simp [beB_length]
 omega
theorem mk2_zero (p : List Int) (g : Nat) : mk2 p 0 0 = mk2 p g 0 := rfl
theorem mk2_next (p : List Int) (g k : Nat) (h : k < 4) (hp : p.length ≤ 54) : (mk2 p g k).set (63 - k) ((g / 256 ^ k % 256 : Nat) : Int) = mk2 p g (k + 1) := by
 have hl := body_length p hp
 unfold mk2
 rw [show 64 - k = (63 - k) + 1 by omega, List.take_succ_eq_append_getElem (by omega), List.append_assoc, List.set_append_right _ _ (by simp; omega), List.length_take, show 63 - k - min (63 - k) (body p).length = 0 by omega, show 64 - (k + 1) = 63 - k by omega]
 rfl
theorem mk2_sum (p : List Int) (g : Nat) (hp : p.length ≤ 54) : (mk2 p g 4).take 56 ++ (mk2 p g 4).drop 60 = (body p).take 56 ++ beB 4 g := by
 have hl := body_length p hp
 unfold mk2
 rw [List.take_append_of_le_length (by simp; omega), List.take_take, List.drop_left' (by simp; omega)]
 rfl
theorem mk2_end (p : List Int) (g : Nat) : mk2 p g 4 = mk3 p g 0 := rfl
theorem mk3_next (p : List Int) (g k : Nat) (h : k < 4) (hp : p.length ≤ 54) : (mk3 p g k).set (59 - k) ((crcSum ((body p).take 56 ++ beB 4 g) / 256 ^ k % 256 : Nat) : Int) = mk3 p g (k + 1) := by
 have hl := body_length p hp
 unfold mk3
 rw [show 60 - k = (59 - k) + 1 by omega, List.take_succ_eq_append_getElem (by omega), List.append_assoc, List.set_append_right _ _ (by simp; omega), List.length_take, show 59 - k - min (59 - k) (body p).length = 0 by omega, show 60 - (k + 1) = 59 - k by omega]
 rfl
theorem mk3_end (p : List Int) (g : Nat) : mk3 p g 4 = rec g p := by unfold mk3 rec; rfl
theorem mk2_bys (p : List Int) (g k : Nat) (hb : Bys p) : Bys (mk2 p g k) := fun b h => by
 rcases List.mem_append.1 h with h | h
 ·exact body_bys hb b (List.mem_of_mem_take h)
 ·exact beB_bys _ _ b h
theorem u8s_set (l : List Int) (i : Nat) (c : Int) : (u8s l).set i (.int .u8 c) = u8s (l.set i c) := by simp [u8s, List.map_set]
theorem Blk.byte {w : World} {g : Nat} {t : TypeId} {l : List Int} (h : Blk w g t (u8s l).toArray) (i : Nat) (c : Int) : Blk (w.setCell ⟨g, i, none⟩ (.int .u8 c)) g t (u8s (l.set i c)).toArray := by
 have := h.set_ i (.int .u8 c)
 rw [List.setIfInBounds_toArray, u8s_set] at this
 exact this
theorem Blk.byteAt {w : World} {g : Nat} {t : TypeId} {l : List Int} (h : Blk w g t (u8s l).toArray) (i : Nat) (hi : i < l.length) : (∃ c, w.cell? ⟨g, i, none⟩ = some (.int .u8 c)) ∧ w.frozen? ⟨g, i, none⟩ = false :=
 ⟨⟨l[i], by rw [h.cell i, List.getElem?_toArray]; exact u8s_get l i hi⟩, h.frozen i⟩
set_option maxHeartbeats 4000000 in
theorem ref_make (g : Nat) (p : List Int) (v : Value) (w : World) (hs : Sn w 1 v p.length (u8s p)) (hb : Bys p) (hp : p.length ≤ 54) :
  Calls Tryz.prog 26 #[.int .u32 g, v] w fun e w' => e = .returned (.agg (u8s (rec g p)).toArray) ∧ Below w.heap.size w w' := by
 obtain ⟨A, cap, rfl, hcap, _, _⟩ := id hs
 have HS := Lib.hid hs
 have HB := Lib.hid hb
 clear hs hb
 obtain ⟨w1, hw1⟩ : ∃ w1, w1 = (w.alloc (.cells z64 72)).alloc (.cells z64 72) := ⟨_, rfl⟩
 have hA1 : Blk w1 w.heap.size 72 z64 := by rw [hw1]; exact (Blk.new _ _ _).alloc _
 have hB1 : Blk w1 (w.heap.size + 1) 72 (u8s zsec).toArray := by rw [hw1, ← z64_zsec]; exact Blk.newAt _ _ _ _ (by simp)
 have hb1 : Below w.heap.size w w1 := by rw [hw1]; exact bstep (bel1 _ _) (bel1 _ _)
 have hsz1 : w1.heap.size = w.heap.size + 2 := by rw [hw1]; simp
 have hz64 : zsec.length = 64 := by simp [zsec]
 obtain ⟨⟨c1, hc1⟩, hf1⟩ := hB1.byteAt 1 (by omega)
 have hB2 := hB1.byte 1 (p.length : Int)
 rw [mk1_zero p hp] at hB2
 have HA2 : Hid (Blk (w1.setCell ⟨w.heap.size + 1, 1, none⟩ (.int .u8 (p.length : Int))) w.heap.size 72 z64) := jz (hA1.far (by simp) _)
 have HB2 := Lib.hid hB2
 have HW2 : Hid (Below w.heap.size w (w1.setCell ⟨w.heap.size + 1, 1, none⟩ (.int .u8 (p.length : Int)))) := jz (hb1.setCell (by simp) _)
 clear hA1 hB1 hb1 hB2
 have k1 : IntKind.u8.wrap (p.length : Int) = p.length := by unfold IntKind.wrap; simp [IntKind.signed, IntKind.bits]; omega
 go_enter Tryz.func26, Tryz.ntmps26
 go_upto_region 2 with (refine al 72 z64 rfl rfl zero64 ?_)
 rw [← hw1]
 clear hw1
 go_upto_region 3 with fail
 obtain ⟨w2, hw2⟩ : ∃ w2, w2 = w1.setCell ⟨w.heap.size + 1, 1, none⟩ (.int .u8 (p.length : Int)) := ⟨_, rfl⟩
 have hsz2 : w2.heap.size = w.heap.size + 2 := by rw [hw2]; simp [hsz1]
 rw [← hw2] at HA2 HB2 HW2 ⊢
 clear hw2 hc1 hf1
 go_wp2_with fail
 obtain ⟨N, hN⟩ : ∃ N, N = w.heap.size := ⟨_, rfl⟩
 go_loopw [6] (fun i wr => ∃ k : Nat, k ≤ p.length ∧ i = .int .i64 k ∧ Hid (Blk wr w.heap.size 72 z64) ∧ Hid (Blk wr (w.heap.size + 1) 72 (u8s (mk1 p k)).toArray) ∧ Hid (Below w.heap.size w wr)) (fun i _ => p.length - (intOf i).toNat)
 case atStart => exact ⟨0, Nat.zero_le _, rfl, HA2, HB2, HW2⟩
 case round =>
  obtain ⟨k, hk, rfl, HAr, HBr, HWr⟩ := hrel
  have hszr := HWr.out.size
  rcases Nat.lt_or_ge k p.length with hlt | hge
  ·obtain ⟨A', cap', hv, _, _, hx⟩ := HS.out.below HWr.out
   injection hv with hv _ hv2
   obtain ⟨b, off, he, hcell⟩ := hx (by omega)
   subst hv hv2 he
   have hi := hcell k _ (u8s_get p k hlt)
   obtain ⟨⟨c, hc⟩, hf⟩ := HBr.out.byteAt (2 + k) (by rw [mk1_len p k hk hp]; omega)
   have HB3 := jz (HBr.out.byte (2 + k) p[k])
   rw [mk1_next p k hlt hp] at HB3
   have HA3 : Hid (Blk (wr.setCell ⟨w.heap.size + 1, 2 + k, none⟩ (.int .u8 p[k])) w.heap.size 72 z64) := jz (HAr.out.far (by simp) _)
   have HW3 : Hid (Below w.heap.size w (wr.setCell ⟨w.heap.size + 1, 2 + k, none⟩ (.int .u8 p[k]))) := jz (HWr.out.setCell (by simp) _)
   have hi0 : (0 : Int) ≤ k := by omega
   have hi1 : (k : Int) < p.length := by omega
   obtain ⟨x, hxd⟩ : ∃ x, x = p[k] := ⟨_, rfl⟩
   rw [← hxd] at hi HB3 HA3 HW3
   clear hxd hcell hx
   go_wp2_with fail
   exact ⟨⟨k + 1, by omega, by go_num, HA3, HB3, HW3⟩, by simp [intOf]; omega⟩
  ·obtain rfl : k = p.length := by omega
   have HB4 := HBr
   rw [mk1_end p hp, mk2_zero p g] at HB4
   clear HBr
   go_wp2_with fail
   obtain ⟨w3, rfl⟩ : ∃ w3 : World, w3 = wr := ⟨_, rfl⟩
   go_loopw [7] (fun i wr => ∃ k : Nat, k ≤ 4 ∧ i = .int .i64 k ∧ Hid (Blk wr w.heap.size 72 z64) ∧ Hid (Blk wr (w.heap.size + 1) 72 (u8s (mk2 p g k)).toArray) ∧ Hid (Below w.heap.size w wr)) (fun i _ => 4 - (intOf i).toNat)
   case atStart => exact ⟨0, Nat.zero_le _, rfl, HAr, HB4, HWr⟩
   case round =>
    obtain ⟨k, hk, rfl, HAr, HBr, HWr⟩ := hrel
    have hszr := HWr.out.size
    rcases Nat.lt_or_ge k 4 with hlt | hge
    ·obtain ⟨⟨c, hc⟩, hf⟩ := HBr.out.byteAt (63 - k) (by rw [mk2_len p g k hk hp]; omega)
     obtain ⟨x, hxd⟩ : ∃ x : Nat, x = g / 256 ^ k % 256 := ⟨_, rfl⟩
     have HB3 := jz (HBr.out.byte (63 - k) ((g / 256 ^ k % 256 : Nat) : Int))
     rw [mk2_next p g k hlt hp, ← hxd] at HB3
     have HA3 : Hid (Blk (wr.setCell ⟨w.heap.size + 1, 63 - k, none⟩ (.int .u8 (x : Int))) w.heap.size 72 z64) := jz (HAr.out.far (by simp) _)
     have HW3 : Hid (Below w.heap.size w (wr.setCell ⟨w.heap.size + 1, 63 - k, none⟩ (.int .u8 (x : Int)))) := jz (HWr.out.setCell (by simp) _)
     have e256 : (256 : Nat) ^ k = 2 ^ (8 * k) := by rw [Nat.pow_mul]
     have e : (g : Int) / 2 ^ (8 * k) % 256 = (x : Int) := by
      rw [hxd, e256]
      simp
     have hi0 : (0 : Int) ≤ k := by omega
     have hi1 : (k : Int) < 4 := by omega
     have HEX := Lib.hid e
     clear hxd e
     go_wp2_with (refine shrN _ _ _ _ rfl rfl (n := g) (m := 8 * k) rfl (by exact congrArg (Value.int _) (by omega)) (by show 8 * k ≤ 32; omega) ?_)
     rw [HEX.out]
     exact ⟨⟨k + 1, by omega, by go_num, HA3, HB3, HW3⟩, by simp [intOf]; omega⟩
    ·obtain rfl : k = 4 := by omega
     have hr4 := HBr.out.range
     rw [List.toList_toArray] at hr4
     have hul : (u8s (mk2 p g 4)).length = 64 := by rw [u8s_length, mk2_len p g 4 (by omega) hp]
     have HUL := Lib.hid hul
     clear hul
     go_wp2_with (refine ld 72 _ rfl rfl rfl hr4 Tryz.underlying72 rfl (by rw [HUL.out]; kernel_rfl) ?_)
     refine (ref17_sum (mk2 p g 4) wr (mk2_len p g 4 (by omega) hp) (mk2_bys p g 4 HB.out)).mono ?_
     rintro e w4 ⟨rfl, hb4⟩
     rw [mk2_sum p g hp]
     have HB4' := jz (HBr.out.keep hb4)
     have HA4 := jz (HAr.out.keep hb4)
     have HW4 := jz (bstep HWr.out hb4)
     rw [mk2_end] at HB4'
     have hsum := crcSum_lt ((body p).take 56 ++ beB 4 g)
     have HM3 := jz (fun k (h : k < 4) => mk3_next p g k h hp)
     obtain ⟨X, hX⟩ : ∃ X, X = crcSum ((body p).take 56 ++ beB 4 g) := ⟨_, rfl⟩
     rw [← hX] at hsum HM3 ⊢
     clear hX hb4 hr4 HBr HAr HWr HB4
     go_wp2_with fail
     obtain ⟨w5, hw5⟩ : ∃ w5 : World, w5 = w4 := ⟨_, rfl⟩
     go_loopw [9] (fun i wr => ∃ k : Nat, k ≤ 4 ∧ i = .int .i64 k ∧ Hid (Blk wr w.heap.size 72 z64) ∧ Hid (Blk wr (w.heap.size + 1) 72 (u8s (mk3 p g k)).toArray) ∧ Hid (Below w.heap.size w wr)) (fun i _ => 4 - (intOf i).toNat)
     case atStart => exact ⟨0, Nat.zero_le _, rfl, HA4, HB4', HW4⟩
     case round =>
      obtain ⟨k, hk, rfl, HAr, HBr, HWr⟩ := hrel
      have hszr := HWr.out.size
      rcases Nat.lt_or_ge k 4 with hlt | hge
      ·obtain ⟨⟨c, hc⟩, hf⟩ := HBr.out.byteAt (59 - k) (by rw [mk3_len p g k hk hp]; omega)
       obtain ⟨x, hxd⟩ : ∃ x : Nat, x = X / 256 ^ k % 256 := ⟨_, rfl⟩
       have HB3 := jz (HBr.out.byte (59 - k) ((X / 256 ^ k % 256 : Nat) : Int))
       rw [HM3.out k hlt, ← hxd] at HB3
       have HA3 : Hid (Blk (wr.setCell ⟨w.heap.size + 1, 59 - k, none⟩ (.int .u8 (x : Int))) w.heap.size 72 z64) := jz (HAr.out.far (by simp) _)
       have HW3 : Hid (Below w.heap.size w (wr.setCell ⟨w.heap.size + 1, 59 - k, none⟩ (.int .u8 (x : Int)))) := jz (HWr.out.setCell (by simp) _)
       have e256 : (256 : Nat) ^ k = 2 ^ (8 * k) := by rw [Nat.pow_mul]
       have e : (X : Int) / 2 ^ (8 * k) % 256 = (x : Int) := by
        rw [hxd, e256]
        simp
       have hi0 : (0 : Int) ≤ k := by omega
       have hi1 : (k : Int) < 4 := by omega
       have HEX := Lib.hid e
       clear hxd e
       go_wp2_with (refine shrN _ _ _ _ rfl rfl (n := X) (m := 8 * k) rfl (by exact congrArg (Value.int _) (by omega)) (by show 8 * k ≤ 32; omega) ?_)
       rw [HEX.out]
       exact ⟨⟨k + 1, by omega, by go_num, HA3, HB3, HW3⟩, by simp [intOf]; omega⟩
      ·obtain rfl : k = 4 := by omega
       rw [mk3_end] at HBr
       have hr5 := HBr.out.range
       rw [List.toList_toArray] at hr5
       have hrl : (u8s (rec g p)).length = 64 := by rw [u8s_length, rec_length g p hp]
       have HRL := Lib.hid hrl
       have hzs : z64.size = (u8s (rec g p)).toArray.size := by rw [z64_size, List.size_toArray, hrl]
       have h1 := u8s_one (rec g p)
       have hi64 : (Tryz.prog.info? 72).map (·.size) = some (u8s (rec g p)).toArray.size := by rw [List.size_toArray, hrl]; kernel_rfl
       clear hrl
       go_wp2_with (first
        | (refine ld 72 _ rfl rfl rfl hr5 Tryz.underlying72 rfl (by rw [HRL.out]; kernel_rfl) ?_)
        | (refine stBlk 72 (.tmp 4) (.tmp 55) rfl rfl rfl rfl HAr.out hi64 hzs h1 ?_; intro w6 hB6 hb6 _ _; have HB6 := Lib.hid hB6; have HE6 := Lib.hid hb6; clear hB6 hb6))
       refine bodyPost_ret (results_cell_row rfl _ _ w.heap.size 72 _ (0, 0) _ rfl HB6.out Tryz.underlying72 rfl hi64) rfl ⟨rfl, ?_⟩
       exact HWr.out.trans (HE6.out.mono (Nat.le_refl _))
def tr1 (old data : List Int) (c : Int) (k : Nat) : List Int := (tearL old data c).take k ++ List.replicate (64 - k) 0
theorem tearL_len (old data : List Int) (c : Int) (ho : old.length = 64) (hd : data.length = 64) : (tearL old data c).length = 64 := by
 have := cutN_le c
 unfold tearL
 simp [ho, hd]; omega
theorem tearL_at (old data : List Int) (c : Int) (hd : data.length = 64) (k : Nat) (hk : k < 64) : (tearL old data c)[k]? = if (k : Int) < c then data[k]? else old[k]? := by
 have := cutN_le c
 unfold tearL
 by_cases h : (k : Int) < c
 ·rw [if_pos h, List.getElem?_append_left (by simp [hd, cutN]; omega), List.getElem?_take_of_lt (by unfold cutN; omega)]
 ·have hc : cutN c ≤ k := by unfold cutN; omega
  rw [if_neg h, List.getElem?_append_right (by simp [hd]; omega), List.getElem?_drop, List.length_take, hd, Nat.min_eq_left (by omega), show cutN c + (k - cutN c) = k by omega]
theorem tr1_len (old data : List Int) (c : Int) (ho : old.length = 64) (hd : data.length = 64) (k : Nat) (hk : k ≤ 64) : (tr1 old data c k).length = 64 := by
 unfold tr1
 have := tearL_len old data c ho hd
 simp [this]; omega
theorem tr1_next (old data : List Int) (c : Int) (ho : old.length = 64) (hd : data.length = 64) (k : Nat) (hk : k < 64) (x : Int) (hx : (tearL old data c)[k]? = some x) : (tr1 old data c k).set k x = tr1 old data c (k + 1) := by
 have hl := tearL_len old data c ho hd
 obtain ⟨h1, h2⟩ := List.getElem?_eq_some_iff.1 hx
 unfold tr1
 rw [List.set_append_right _ _ (by simp; omega), List.length_take, show k - min k (tearL old data c).length = 0 by omega, show 64 - k = (64 - (k + 1)) + 1 by omega, List.replicate_succ, List.set_cons_zero, List.take_succ_eq_append_getElem h1, h2, List.append_assoc]
 rfl
theorem set_set_same (l : List Int) (k : Nat) (x y : Int) : (l.set k x).set k y = l.set k y := by simp
set_option maxHeartbeats 4000000 in
theorem ref_tear (old data : List Int) (c : Int) (w : World) (ho : Sec old) (hd : Sec data) (hc : isI64 c) :
  Calls Tryz.prog 78 #[.agg (u8s old).toArray, .agg (u8s data).toArray, .int .i64 c] w fun e w' => e = .returned (.agg (u8s (tearL old data c)).toArray) ∧ Below w.heap.size w w' := by
 obtain ⟨w1, hw1⟩ : ∃ w1, w1 = (((w.alloc (.cells (u8s old).toArray 72)).alloc (.cells (u8s data).toArray 72)).alloc (.cells z64 72)).alloc (.cells z64 72) := ⟨_, rfl⟩
 have hO : Blk w1 w.heap.size 72 (u8s old).toArray := by rw [hw1]; exact (((Blk.new _ _ _).alloc _).alloc _).alloc _
 have hD : Blk w1 (w.heap.size + 1) 72 (u8s data).toArray := by rw [hw1]; exact ((Blk.newAt _ _ _ _ (by simp)).alloc _).alloc _
 have hR : Blk w1 (w.heap.size + 2) 72 z64 := by rw [hw1]; exact (Blk.newAt _ _ _ _ (by simp)).alloc _
 have hB : Blk w1 (w.heap.size + 3) 72 (u8s (tr1 old data c 0)).toArray := by
  rw [hw1, show tr1 old data c 0 = zsec by unfold tr1 zsec; rw [List.take_zero]; rfl, ← z64_zsec]
  exact Blk.newAt _ _ _ _ (by simp)
 have hb : Below w.heap.size w w1 := by rw [hw1]; exact bstep (bstep (bstep (bel1 _ _) (bel1 _ _)) (bel1 _ _)) (bel1 _ _)
 have HO := Lib.hid hO
 have HD := Lib.hid hD
 have HR := Lib.hid hR
 have HB := Lib.hid hB
 have HW := Lib.hid hb
 have h1 : -9223372036854775808 ≤ c := hc.1
 have h2 : c ≤ 9223372036854775807 := hc.2
 clear hO hD hR hB hb hc
 go_enter Tryz.func78, Tryz.ntmps78
 go_upto_region 2 with (refine al 72 z64 rfl rfl zero64 ?_)
 rw [← hw1]
 clear hw1
 go_wp2_with fail
 go_loopw [8] (fun i wr => ∃ k : Nat, k ≤ 64 ∧ i = .int .i64 k ∧ Hid (Blk wr w.heap.size 72 (u8s old).toArray) ∧ Hid (Blk wr (w.heap.size + 1) 72 (u8s data).toArray) ∧ Hid (Blk wr (w.heap.size + 2) 72 z64) ∧ Hid (Blk wr (w.heap.size + 3) 72 (u8s (tr1 old data c k)).toArray) ∧ Hid (Below w.heap.size w wr)) (fun i _ => 64 - (intOf i).toNat)
 case atStart => exact ⟨0, Nat.zero_le _, rfl, HO, HD, HR, HB, HW⟩
 case round =>
  obtain ⟨k, hk, rfl, HOr, HDr, HRr, HBr, HWr⟩ := hrel
  have hszr := HWr.out.size
  rcases Nat.lt_or_ge k 64 with hlt | hge
  ·have hat := tearL_at old data c hd.1 k hlt
   obtain ⟨a, ha, ea⟩ := sec_at ho.1 ho.2 k hlt
   obtain ⟨b, hb, eb⟩ := sec_at hd.1 hd.2 k hlt
   have q1 : wr.cell? ⟨w.heap.size, k, none⟩ = some (.int .u8 (a : Nat)) := by rw [HOr.out.cell k, List.getElem?_toArray]; exact u8s_at ea
   have HQ2 : Hid (wr.cell? ⟨w.heap.size + 1, k, none⟩ = some (.int .u8 (b : Nat))) := jz (by rw [HDr.out.cell k, List.getElem?_toArray]; exact u8s_at eb)
   obtain ⟨⟨c0, hc⟩, hf⟩ := HBr.out.byteAt k (by rw [tr1_len old data c ho.1 hd.1 k hk]; omega)
   have B1 := HBr.out.byte k (a : Int)
   obtain ⟨w2, hw2⟩ : ∃ w2, w2 = wr.setCell ⟨w.heap.size + 3, k, none⟩ (.int .u8 (a : Int)) := ⟨_, rfl⟩
   have O1 : Blk w2 w.heap.size 72 (u8s old).toArray := by rw [hw2]; exact HOr.out.far (by simp) _
   have D1 : Blk w2 (w.heap.size + 1) 72 (u8s data).toArray := by rw [hw2]; exact HDr.out.far (by simp) _
   have R1 : Blk w2 (w.heap.size + 2) 72 z64 := by rw [hw2]; exact HRr.out.far (by simp) _
   have W1 : Below w.heap.size w w2 := by rw [hw2]; exact HWr.out.setCell (by simp) _
   rw [← hw2] at B1
   have HO1 := Lib.hid O1
   have HD1 := Lib.hid D1
   have HR1 := Lib.hid R1
   have HW1 := Lib.hid W1
   have HB1 := Lib.hid B1
   have hi0 : (0 : Int) ≤ k := by omega
   have hi1 : (k : Int) < 64 := by omega
   clear O1 D1 R1 W1 B1
   rcases Bool.eq_false_or_eq_true (decide ((k : Int) < c)) with t1 | t1
   ·rw [if_pos (of_decide_eq_true t1), eb] at hat
    have hn := tr1_next old data c ho.1 hd.1 k hlt b hat
    have HB2 := jz (HB1.out.byte k (b : Int))
    rw [set_set_same, hn] at HB2
    have HO2 : Hid (Blk (w2.setCell ⟨w.heap.size + 3, k, none⟩ (.int .u8 (b : Int))) w.heap.size 72 (u8s old).toArray) := jz (HO1.out.far (by simp) _)
    have HD2 : Hid (Blk (w2.setCell ⟨w.heap.size + 3, k, none⟩ (.int .u8 (b : Int))) (w.heap.size + 1) 72 (u8s data).toArray) := jz (HD1.out.far (by simp) _)
    have HR2 : Hid (Blk (w2.setCell ⟨w.heap.size + 3, k, none⟩ (.int .u8 (b : Int))) (w.heap.size + 2) 72 z64) := jz (HR1.out.far (by simp) _)
    have HW2 : Hid (Below w.heap.size w (w2.setCell ⟨w.heap.size + 3, k, none⟩ (.int .u8 (b : Int)))) := jz (HW1.out.setCell (by simp) _)
    have q2 : w2.cell? ⟨w.heap.size + 1, k, none⟩ = some (.int .u8 (b : Nat)) := by rw [HD1.out.cell k, List.getElem?_toArray]; exact u8s_at eb
    obtain ⟨⟨c1, hc1⟩, hf1⟩ := HB1.out.byteAt k (by rw [List.length_set, tr1_len old data c ho.1 hd.1 k hk]; omega)
    clear hat ea eb hn HQ2
    go_upto_region 6 with fail
    rw [← hw2]
    clear hw2
    go_wp2_with fail
    exact ⟨⟨k + 1, by omega, by go_num, HO2, HD2, HR2, HB2, HW2⟩, by simp [intOf]; omega⟩
   ·rw [if_neg (of_decide_eq_false t1), ea] at hat
    have hn := tr1_next old data c ho.1 hd.1 k hlt a hat
    rw [hn] at HB1
    clear hat ea eb hn
    go_upto_region 6 with fail
    rw [← hw2]
    clear hw2
    go_wp2_with fail
    exact ⟨⟨k + 1, by omega, by go_num, HO1, HD1, HR1, HB1, HW1⟩, by simp [intOf]; omega⟩
  ·obtain rfl : k = 64 := by omega
   have hfin : tr1 old data c 64 = tearL old data c := by unfold tr1; rw [List.take_of_length_le (by rw [tearL_len old data c ho.1 hd.1]; omega)]; simp
   rw [hfin] at HBr
   have hr5 := HBr.out.range
   rw [List.toList_toArray] at hr5
   have hrl : (u8s (tearL old data c)).length = 64 := by rw [u8s_length, tearL_len old data c ho.1 hd.1]
   have HRL := Lib.hid hrl
   have hzs : z64.size = (u8s (tearL old data c)).toArray.size := by rw [z64_size, List.size_toArray, hrl]
   have h1 := u8s_one (tearL old data c)
   have hi64 : (Tryz.prog.info? 72).map (·.size) = some (u8s (tearL old data c)).toArray.size := by rw [List.size_toArray, hrl]; kernel_rfl
   clear hrl
   go_wp2_with (first
    | (refine ld 72 _ rfl rfl rfl hr5 Tryz.underlying72 rfl (by rw [HRL.out]; kernel_rfl) ?_)
    | (refine stBlk 72 (.tmp 6) (.tmp 26) rfl rfl rfl rfl HRr.out hi64 hzs h1 ?_; intro w6 hB6 hb6 _ _; have HB6 := Lib.hid hB6; have HE6 := Lib.hid hb6; clear hB6 hb6))
   refine bodyPost_ret (results_cell_row rfl _ _ (w.heap.size + 2) 72 _ (0, 0) _ rfl HB6.out Tryz.underlying72 rfl hi64) rfl ⟨rfl, ?_⟩
   exact HWr.out.trans (HE6.out.mono (by omega))
structure St (w0 w : World) (m : DiskM) (d : DiskD) : Prop where
 dk : DK w m d
 ft : ∀ k ∈ foot m, w0.heap.size ≤ k
 bel : Below w0.heap.size w0 w
def Apart (m : DiskM) (g : Nat) : Prop := g ∉ foot m ∧ ∀ k, isI64 k → ∀ v, m.cv k = some v → v.ownBlock ≠ some g
theorem Apart.next {w w' : World} {m m' : DiskM} {g : Nat} (h : Apart m g) (hg : g < w.heap.size) (ht : DT w m w' m') : Apart m' g :=
 ⟨fun hm => by
  rcases ht.sub g hm with hm | hm
  ·exact h.1 hm
  ·omega, fun k hk v hv e => by
  rcases ht.cv k v hv with h1 | h1
  ·exact h.2 k hk v h1 e
  ·have := h1 g e; omega⟩
theorem DK.cv_lt {w : World} {m : DiskM} {d : DiskD} (h : DK w m d) {k : Int} (hk : isI64 k) {v : Value} (hv : m.cv k = some v) : ∀ b, v.ownBlock = some b → b < w.heap.size := fun b e => by
 have := h.crv k hk
 cases hc : d.cr k with
 | none => rw [hc] at this; rw [this] at hv; cases hv
 | some cs =>
  rw [hc] at this
  obtain ⟨v2, h1, _, h3⟩ := this
  rw [hv] at h1
  injection h1 with h1
  subst h1
  exact (h3 b e).2
theorem Apart.fresh {w : World} {m : DiskM} {d : DiskD} {g : Nat} (h : DK w m d) (hg : w.heap.size ≤ g) : Apart m g :=
 ⟨h.notFoot hg, fun k hk v hv e => by have := h.cv_lt hk hv g e; omega⟩
theorem DK.offK {w w' : World} {m : DiskM} {d : DiskD} {b : Nat} (h : DK w m d) (hk : ∀ k, k ≠ b → w'.heap[k]? = w.heap[k]?) (hs : w.heap.size ≤ w'.heap.size) (ha : Apart m b) : DK w' m d where
 blk := (hk m.g (fun e => ha.1 (e ▸ foot_g m))).trans h.blk
 sec := own_blk h.sec fun x hx => hk x (fun e => ha.1 (e ▸ foot_sv hx))
 opn := own_blk h.opn fun x hx => hk x (fun e => ha.1 (e ▸ foot_ov hx))
 last := h.last.of_block (hk _ (fun e => ha.1 (e ▸ foot_bl m)))
 fl := h.fl.of_block (hk _ (fun e => ha.1 (e ▸ foot_bf m)))
 cr := h.cr.of_block (hk _ (fun e => ha.1 (e ▸ foot_bc m)))
 nd := h.nd
 flv := h.flv
 crv := fun k hi => by
  have := h.crv k hi
  cases hc : d.cr k with
  | none => rw [hc] at this; exact this
  | some cs =>
   rw [hc] at this
   obtain ⟨v, h1, h2, h3⟩ := this
   refine ⟨v, h1, ?_, fun b hb => ⟨(h3 b hb).1, Nat.lt_of_lt_of_le (h3 b hb).2 hs⟩⟩
   have hne := ha.2 k hi v h1
   obtain ⟨A, cap, rfl, q1, q2, hx⟩ := h2
   refine ⟨A, cap, rfl, q1, q2, fun hp => ?_⟩
   obtain ⟨g, o, rfl, hcell⟩ := hx hp
   exact ⟨g, o, rfl, fun j u hj => (World.cell?_of_block (a := ⟨g, o + j, none⟩) (hk g (fun e => hne (by rw [e]; rfl)))).trans (hcell j u hj)⟩
 ok := h.ok
structure LB (w : World) (m : DiskM) (g : Nat) (t : TypeId) (cs : Array Value) : Prop where
 blk : Blk w g t cs
 nf : g ∉ foot m
structure LS (w : World) (m : DiskM) (s : Nat) (v : Value) (n : Nat) (xs : List Value) : Prop where
 sn : Sn w s v n xs
 nf : ∀ b, v.ownBlock = some b → b ∉ foot m ∧ b < w.heap.size
theorem St.keep {w0 w w' : World} {m : DiskM} {d : DiskD} (h : St w0 w m d) (hb : Below w.heap.size w w') : St w0 w' m d := ⟨h.dk.keep hb, h.ft, bstep h.bel hb⟩
theorem St.next {w0 w w' : World} {m m' : DiskM} {d d' : DiskD} (h : St w0 w m d) (hk : DK w' m' d') (ht : DT w m w' m') : St w0 w' m' d' :=
 ⟨hk, ht.le h.ft h.bel.size, h.bel.trans (ht.below h.ft h.bel.size)⟩
theorem St.drew {w0 w : World} {m : DiskM} {d : DiskD} (h : St w0 w m d) (n : Nat) : St w0 (w.drewN n) m d := h.keep (bdrewN (Below.refl _ _) n)
theorem LB.keep {w w' : World} {m : DiskM} {g : Nat} {t : TypeId} {cs : Array Value} (h : LB w m g t cs) (hb : Below w.heap.size w w') : LB w' m g t cs := ⟨h.blk.keep hb, h.nf⟩
theorem LB.next {w w' : World} {m m' : DiskM} {g : Nat} {t : TypeId} {cs : Array Value} (h : LB w m g t cs) (ht : DT w m w' m') : LB w' m' g t cs :=
 ⟨(ht.off h.blk.lt h.nf).trans h.blk, fun hm => by
  rcases ht.sub g hm with hm | hm
  ·exact h.nf hm
  ·have := h.blk.lt; omega⟩
theorem LB.old {w0 w : World} {m : DiskM} {d : DiskD} {g : Nat} {t : TypeId} {cs : Array Value} (h : St w0 w m d) (hb : Blk w0 g t cs) : LB w m g t cs :=
 ⟨hb.keep h.bel, fun hm => by have := h.ft g hm; have := hb.lt; omega⟩
theorem LB.fresh {w w' : World} {m : DiskM} {d : DiskD} {g : Nat} {t : TypeId} {cs : Array Value} (h : DK w m d) (hg : w.heap.size ≤ g) (hb : Blk w' g t cs) : LB w' m g t cs := ⟨hb, h.notFoot hg⟩
theorem LS.keep {w w' : World} {m : DiskM} {s n : Nat} {v : Value} {xs : List Value} (h : LS w m s v n xs) (hb : Below w.heap.size w w') : LS w' m s v n xs :=
 ⟨h.sn.below hb, fun b e => ⟨(h.nf b e).1, Nat.lt_of_lt_of_le (h.nf b e).2 hb.size⟩⟩
theorem LS.next {w w' : World} {m m' : DiskM} {s n : Nat} {v : Value} {xs : List Value} (h : LS w m s v n xs) (ht : DT w m w' m') : LS w' m' s v n xs :=
 ⟨ht.fo.sn h.sn (fun b e => (h.nf b e).1), fun b e => ⟨fun hm => by
  rcases ht.sub b hm with hm | hm
  ·exact (h.nf b e).1 hm
  ·have := (h.nf b e).2; omega, Nat.lt_of_lt_of_le (h.nf b e).2 ht.fo.size⟩⟩
theorem LS.old {w0 w : World} {m : DiskM} {d : DiskD} {s n : Nat} {v : Value} {xs : List Value} (h : St w0 w m d) (hs : Sn w0 s v n xs) (hl : ∀ b, v.ownBlock = some b → b < w0.heap.size) : LS w m s v n xs :=
 ⟨hs.below h.bel, fun b e => ⟨fun hm => by have := h.ft b hm; have := hl b e; omega, Nat.lt_of_lt_of_le (hl b e) h.bel.size⟩⟩
theorem LS.own {w w' : World} {m : DiskM} {d : DiskD} {t s n : Nat} {v : Value} {xs : List Value} (h : DK w m d) (ho : w'.ownsRow w.heap.size t s v n xs) : LS w' m s v n xs :=
 ⟨Sn.own ho, fun b e => ⟨h.notFoot (World.ownsRow.lt ho b e).1, (World.ownsRow.lt ho b e).2⟩⟩
theorem Sn.blk_lt {w : World} {s n cap : Nat} {A : Option Addr} {xs : List Value} (h : Sn w s (.slice A n cap) n xs) (hn : 0 < n) (hs : 0 < s) : ∀ b, (Value.slice A n cap).ownBlock = some b → b < w.heap.size := by
 obtain ⟨A', cap', hv, _, hl, hx⟩ := h
 injection hv with hA _ _
 subst hA
 obtain ⟨b, off, rfl, hcell⟩ := hx hn
 intro b' e
 injection e with e
 subst e
 have hp : 0 < xs.length := by rw [hl]; exact Nat.mul_pos hn hs
 exact cell_lt (hcell 0 _ (List.getElem?_eq_getElem hp))
theorem Sn.take {w : World} {s n cap : Nat} {A : Option Addr} {xs : List Value} (h : Sn w s (.slice A n cap) n xs) (k : Nat) (hk : k ≤ n) : Sn w s (.slice A k cap) k (xs.take (k * s)) := by
 obtain ⟨A', cap', hv, hcap, hl, hx⟩ := h
 injection hv with hA _ hc
 subst hA hc
 have := Nat.mul_le_mul_right s hk
 refine ⟨_, _, rfl, by omega, by rw [List.length_take]; omega, fun hp => ?_⟩
 obtain ⟨b, off, rfl, hcell⟩ := hx (by omega)
 refine ⟨b, off, rfl, fun j u hj => hcell j u ?_⟩
 rw [List.getElem?_take] at hj
 split at hj
 ·exact hj
 ·cases hj
end Go.Proofs.YtillkpjflcgkeaaGreat
