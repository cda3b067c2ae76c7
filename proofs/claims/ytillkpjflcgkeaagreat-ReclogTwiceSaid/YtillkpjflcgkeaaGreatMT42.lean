import Derived.Test.YtillkpjflcgkeaaGreatMT36
import Derived.Test.YtillkpjflcgkeaaGreatMT16
import Derived.Laws.OwnMore
import Derived.Test.YtillkpjflcgkeaaGreatMT38
import Derived.Test.YtillkpjflcgkeaaGreatMT39
import Derived.Test.YtillkpjflcgkeaaGreatMT40
import Derived.Test.YtillkpjflcgkeaaGreatMT41
set_option linter.unusedSimpArgs false
set_option maxRecDepth 100000
namespace Go.Proofs.YtillkpjflcgkeaaGreat
open Go.RowKit
def Still (d : DiskD) : Prop := d.down = false ∧ d.opn = []
theorem sync_still {d : DiskD} (h : Still d) (hs : syncA d = none) : (syncS d).sec = d.sec ∧ Still (syncS d) ∧ (syncS d).steps = d.steps + 1 := by
 obtain ⟨h1, h2⟩ := syncS_ok hs
 have h3 := (syncA_none hs).2
 refine ⟨?_, ⟨h1, h2⟩, ?_⟩
 ·rw [h3]
  show syncN d.sec d.opn d.opn.length = d.sec
  rw [h.2]
  rfl
 ·rw [h3]
  rfl
theorem fAt_sec {d d' : DiskD} (hs : d'.sec = d.sec) (h : Nat) (L : LogD) : ∀ k, fAt d' h L k = fAt d h L k
 | 0 => rfl
 | k + 1 => by
  have e : slotS d' (sFrom h k) h = slotS d (sFrom h k) h := by unfold slotS; rw [hs]
  show fNext k (slotS d' (sFrom h k) h) (fAt d' h L k) = fNext k (slotS d (sFrom h k) h) (fAt d h L k)
  rw [e, fAt_sec hs h L k]
theorem lastN_sec {d d' : DiskD} (hs : d'.sec = d.sec) (h : Still d) (h' : Still d') : ∀ k, k ≤ d.sec.length → lastN d' k = lastN d k
 | 0, _ => rfl
 | k + 1, hk => by
  unfold lastN
  rw [lastN_sec hs h h' k (by omega), rdS_still h.1 h.2 k (by omega), rdS_still h'.1 h'.2 k (by rw [hs]; omega), hs]
theorem openF_sec {d d' : DiskD} (hs : d'.sec = d.sec) (h : Still d) (h' : Still d') : openF d' = openF d := by
 unfold openF
 rw [fAt_sec hs, hs, lastN_sec hs h h' _ (Nat.le_refl _)]
theorem fAt_brk (d : DiskD) (h : Nat) (L : LogD) : ∀ k, (fAt d h L k).2.brk = L.brk
 | 0 => rfl
 | k + 1 => by
  have ih := fAt_brk d h L k
  unfold fAt fNext
  cases (slotS d (sFrom h k) h).1 with
  | none => exact ih
  | some g =>
   simp only
   split
   ·exact ih
   ·exact ih
theorem open_still {d : DiskD} (hN : 2 ≤ d.sec.length) (h : Still d) {es : List Ent2} {L : LogD} (hf : openF d = (some es, L)) (ha : (openR d).1 = none) :
  (openR d).2.2 = some (L, es) ∧ (openR d).2.1.sec = d.sec ∧ Still (openR d).2.1 ∧ (openR d).2.1.steps = d.steps + 1 := by
 unfold openR at ha ⊢
 rw [if_neg (by omega)] at ha ⊢
 cases hs : syncA d with
 | some x => rw [hs] at ha; cases ha
 | none =>
  obtain ⟨h1, h2, h3⟩ := sync_still h hs
  have e : openF (syncS d) = (some es, L) := by rw [openF_sec h1 h h2]; exact hf
  simp only
  rw [openS_some e]
  exact ⟨rfl, h1, h2, h3⟩
structure First (d : DiskD) (L : LogD) (es : List Ent2) (d1 : DiskD) (L' : LogD) : Prop where
 st : Still d1
 ln : d1.sec.length = d.sec.length
 of : openF d1 = (some es, L')
 sd : L'.side = L.side
 gn : L'.gen = L.gen
 bk : L'.brk = false
 s2 : L'.side < 2
 tg : ∀ s ∈ d1.sec, tagS s ≤ max L'.last L'.gen
 mx : max L'.last L'.gen < 4294967296
 le : es.length ≤ d.sec.length
theorem slot_inv9 {d : DiskD} (hs : ∀ s ∈ d.sec, Sec s) (hf : d.sec.length ≤ 4096) (f n : Nat) : (slotS d f n).2.length ≤ 10000 ∧ ∀ g, (slotS d f n).1 = some g → g < 4294967296 := by
 have h1 := scanL_len ((d.sec.drop f).take n) (none, [])
 rw [List.length_take, List.length_drop] at h1
 refine ⟨by unfold slotS; simp at h1; omega, fun g hg => scanL_gen _ _ (fun s h => hs s (List.mem_of_mem_drop (List.mem_of_mem_take h))) (fun g hg => by cases hg) g hg⟩
theorem fAt_len (d : DiskD) (h : Nat) (L : LogD) : ∀ k es, (fAt d h L k).1 = some es → es.length ≤ d.sec.length
 | 0, es, he => by cases he
 | k + 1, es, he => by
  have ih := fAt_len d h L k
  have h1 := scanL_len ((d.sec.drop (sFrom h k)).take h) (none, [])
  rw [List.length_take, List.length_drop] at h1
  have h2 : (slotS d (sFrom h k) h).2.length ≤ d.sec.length := by unfold slotS; simp at h1; omega
  unfold fAt fNext at he
  cases hg : (slotS d (sFrom h k) h).1 with
  | none => rw [hg] at he; exact ih es he
  | some g =>
   rw [hg] at he
   simp only at he
   split at he
   ·exact ih es he
   ·injection he with he; rw [← he]; exact h2
theorem lastN_all {d : DiskD} (h : Still d) : ∀ s ∈ d.sec, tagS s ≤ lastN d d.sec.length := fun s hs => by
 obtain ⟨a, ha, rfl⟩ := mem_getD hs
 exact lastN_ge h.1 h.2 d.sec.length (Nat.le_refl _) a ha
theorem open_first {d : DiskD} (hN : 2 ≤ d.sec.length) (hk : DOk d) (ha : (openR d).1 = none) :
  ∃ L es L', (openR d).2.2 = some (L, es) ∧ First d L es (openR d).2.1 L' := by
 unfold openR at ha ⊢
 rw [if_neg (by omega)] at ha ⊢
 cases hs : syncA d with
 | some x => rw [hs] at ha; cases ha
 | none =>
  rw [hs] at ha
  simp only at ha ⊢
  obtain ⟨d1, hd1⟩ : ∃ x, x = syncS d := ⟨_, rfl⟩
  have hst : Still d1 := by rw [hd1]; exact syncS_ok hs
  obtain ⟨cl, hcl⟩ := crash_wholeL d.sec d.opn hk.sec hk.opn
  have hsc : d1.sec = crashL d.sec d.opn cl := by rw [hd1, (syncA_none hs).2, hcl]; rfl
  have hl : d1.sec.length = d.sec.length := by rw [hsc, crashL_len]
  have hse : ∀ s ∈ d1.sec, Sec s := by rw [hsc]; exact crashL_sec cl hk.sec hk.opn
  have hfe : d1.sec.length ≤ 4096 := by rw [hl]; exact hk.few
  rw [← hd1] at ha ⊢
  have hlt : lastN d1 d1.sec.length < 4294967296 := by
   have := lastN_le hst.1 hst.2 4294967295 (fun s hs => by have := tagS_lt (hse s hs); omega) _ (Nat.le_refl _)
   omega
  cases ho : (openF d1).1 with
  | some es =>
   have e : openF d1 = (some es, (openF d1).2) := by rw [← ho]
   have hb : (openF d1).2.brk = false := fAt_brk d1 _ _ 2
   have hi := fAt_inv d1 (d1.sec.length / 2) ⟨0, lastN d1 d1.sec.length, 0, 0, false⟩ ⟨by show 0 < 2; omega, hlt, by show 0 < 4294967296; omega, by show 0 ≤ 10000; omega⟩ (fun f => slot_inv9 hse hfe f _) 2 (Nat.le_refl _)
   have h1 : (openF d1).2.side < 2 := hi.2.1
   have h2 : (openF d1).2.last = lastN d1 d1.sec.length := hi.2.2.1
   have h3 : (openF d1).2.gen < 4294967296 := hi.2.2.2.1
   rw [openS_some e]
   exact ⟨_, es, _, rfl, hst, hl, e, rfl, rfl, hb, h1, fun s hs => by have := lastN_all hst s hs; rw [h2]; omega, by rw [h2]; omega, by rw [← hl]; exact fAt_len d1 _ _ 2 es ho⟩
  | none =>
   unfold openS at ha ⊢
   rw [ho] at ha ⊢
   simp only at ha ⊢
   split at ha
   ·cases ha
   ·rename_i hne
    rw [if_neg hne]
    cases hw : wsA d1 0 (rec (lastN d1 d1.sec.length + 1) toll) with
    | some x => rw [hw] at ha; cases ha
    | none =>
     obtain ⟨K, hK⟩ : ∃ K, K = lastN d1 d1.sec.length := ⟨_, rfl⟩
     rw [← hK] at hw hne hlt ⊢
     have htg := lastN_all hst
     rw [← hK] at htg
     obtain ⟨k1, k2, k3⟩ := wsA_none hw
     rw [hst.2, List.nil_append] at k3
     have hset : (wsD d1 0 (rec (K + 1) toll)).sec = d1.sec.set 0 (rec (K + 1) toll) := k3
     have hpos : 0 < d1.sec.length := by omega
     have hlw : (wsD d1 0 (rec (K + 1) toll)).sec.length = d1.sec.length := by rw [hset, List.length_set]
     have hst2 : Still (wsD d1 0 (rec (K + 1) toll)) := ⟨k1, k2⟩
     have hsd := sides (h := d1.sec.length / 2) (s := 0) (by omega)
     have hg : ∀ a, 0 < a → (wsD d1 0 (rec (K + 1) toll)).sec.getD a [] = d1.sec.getD a [] := fun a h1 => by rw [hset, getD_set _ _ _ _ hpos, if_neg (by omega)]
     have htl : ∀ a, a < d1.sec.length → tagS (d1.sec.getD a []) ≤ K := fun a h => htg _ (getD_mem h)
     have s0 : sFrom (d1.sec.length / 2) 0 = 0 := by rw [sFrom_le _ _ (by omega)]; omega
     have s1 : sFrom (d1.sec.length / 2) (1 - 0) = d1.sec.length / 2 := by rw [sFrom_le _ _ (by omega)]; omega
     have hlv : Live (wsD d1 0 (rec (K + 1) toll)).sec ((wsD d1 0 (rec (K + 1) toll)).sec.length / 2) 0 (K + 1) [] := by
      rw [hlw]
      refine ⟨by omega, by rw [hlw]; omega, by show 0 + 1 ≤ _; omega, by omega, ?_, fun i hi => absurd hi (by simp), fun q hq => absurd hq (by simp), fun i h1 h2 => ?_, ?_⟩
      ·rw [s0, hset, getD_set _ _ _ _ hpos, if_pos rfl]
      ·rw [s0, hg _ (by omega)]
       have := htl (0 + 1 + i) (by omega)
       omega
      ·rw [s1, hg _ (by omega)]
       have := htl (d1.sec.length / 2) (by omega)
       omega
     have hof := openF_live hlv
     refine ⟨_, _, _, rfl, hst2, hlw.trans hl, hof, rfl, rfl, rfl, by show 0 < 2; omega, fun s hs => ?_, ?_, Nat.zero_le _⟩
     ·have := lastN_all hst2 s hs
      show tagS s ≤ max (lastN _ _) (K + 1)
      omega
     ·show max (lastN _ _) (K + 1) < 4294967296
      have := lastN_le hst2.1 hst2.2 (K + 1) (fun s hs => by
       rw [hset] at hs
       rcases List.mem_or_eq_of_mem_set hs with h1 | h1
       ·have := htg s h1; omega
       ·rw [h1, tag_head (K + 1) (by omega)]; omega) _ (Nat.le_refl _)
      omega
theorem tw_two {d d1 : DiskD} {L L' : LogD} {es : List Ent2} (f : First d L es d1 L') (hN : 2 ≤ d.sec.length) (ha : (openR d1).1 = none) :
  (openR d1).2.2 = some (L', es) ∧ (openR d1).2.1.steps = d1.steps + 1 ∧ (openR d1).2.1.sec = d1.sec ∧ Still (openR d1).2.1 := by
 obtain ⟨h1, h2, h3, h4⟩ := open_still (by rw [f.ln]; exact hN) f.st f.of ha
 exact ⟨h1, h4, h2, h3⟩
theorem tw_three {d d1 d2 : DiskD} {L L' : LogD} {es : List Ent2} (f : First d L es d1 L') (hN : 2 ≤ d.sec.length) (hs : d2.sec = d1.sec) (h2 : Still d2) (hq : ∀ q ∈ es, EntOk q) (hr : (rewR d2 (d.sec.length / 2) L' es).1 = none) (ha : (openR (rewR d2 (d.sec.length / 2) L' es).2.1).1 = none) :
  ∃ L3, (openR (rewR d2 (d.sec.length / 2) L' es).2.1).2.2 = some (L3, es) ∧ L3.side ≠ L.side ∧ L.gen < L3.gen := by
 have hl2 : d2.sec.length = d.sec.length := by rw [hs]; exact f.ln
 obtain ⟨c1, c2, c3, c4, c5, c6, c7⟩ := rew_done (h := d.sec.length / 2) f.bk h2.2 (by rw [hl2]) (by omega) f.s2 (by rw [hs]; exact f.tg) f.mx hq hr
 have hlv : Live (rewR d2 (d.sec.length / 2) L' es).2.1.sec ((rewR d2 (d.sec.length / 2) L' es).2.1.sec.length / 2) (1 - L'.side) (max L'.last L'.gen + 1) es := by rw [c5, hl2]; exact c6
 obtain ⟨h1, _, _, _⟩ := open_still (by rw [c5, hl2]; exact hN) ⟨c4, c3⟩ (openF_live hlv) ha
 refine ⟨_, h1, ?_, ?_⟩
 ·show 1 - L'.side ≠ L.side
  rw [← f.sd]
  have := f.s2
  omega
 ·show L.gen < max L'.last L'.gen + 1
  rw [← f.gn]
  omega
end Go.Proofs.YtillkpjflcgkeaaGreat
namespace Go.Proofs.YtillkpjflcgkeaaGreat
open Go.RowKit
attribute [local irreducible] wpQuiet wpAnyH
set_option maxHeartbeats 2000000 in
theorem ref_payloadA (q : Ent2) (w : World) (hq : EntOk q) :
  Calls Tryz.prog 27 #[.agg (entP q).toArray] w fun e w' => ∃ v, e = .returned v ∧ w'.ownsRow w.heap.size 5 1 v 40 (u8s (q.1 ++ beB 8 (q.2 % 18446744073709551616).toNat)) ∧ Below w.heap.size w w' := by
 obtain ⟨x, hx⟩ : ∃ x : Nat, x = (q.2 % 18446744073709551616).toNat := ⟨_, rfl⟩
 have hx2 : x < 18446744073709551616 := by omega
 have hx3 : q.2 % 18446744073709551616 = (x : Int) := by omega
 rw [← hx]
 have hB1 : Blk (w.alloc (.cells (entP q).toArray 43)) w.heap.size 43 (entP q).toArray := Blk.new _ _ _
 have hb1 : Below w.heap.size w (w.alloc (.cells (entP q).toArray 43)) := bel1 _ _
 obtain ⟨w1, hw1⟩ : ∃ w1, w1 = w.alloc (.cells (entP q).toArray 43) := ⟨_, rfl⟩
 rw [← hw1] at hB1 hb1
 have HD := jz (sn_dig hB1 hq)
 have h32 := hq.dig.len
 have hc : w1.cell? ⟨w.heap.size, 32, none⟩ = some (.int .i64 q.2) := by
  rw [hB1.cell 32, List.getElem?_toArray]
  unfold entP entC
  rw [List.getElem?_append_right (by rw [u8s_length, h32]; omega), u8s_length, h32]
  rfl
 have HB1 := Lib.hid hb1
 have HLT : Hid (w.heap.size < w1.heap.size) := Lib.hid hB1.lt
 have k1 : IntKind.u64.wrap q.2 = (x : Int) := by unfold IntKind.wrap; simp [IntKind.signed, IntKind.bits]; omega
 have hx0 : (0 : Int) ≤ x := by omega
 clear hB1 hb1 hx hx3
 go_enter Tryz.func27, Tryz.ntmps27
 go_upto_region 1 with fail
 rw [← hw1]
 clear hw1
 go_wp2_with fail
 try rw [k1]
 refine (ref_putNumber x w1 hx2).mono ?_
 rintro e w2 ⟨v2, rfl, ho2, hb2⟩
 obtain ⟨A2, c2, rfl, _, _, _⟩ := id (Sn.own ho2)
 have HO2 := Lib.hid ho2
 have HB2 := jz (bstep HB1.out hb2)
 have HD2 : Hid (Sn w2 1 (.slice (some ⟨w.heap.size, 0, none⟩) 32 32) 32 (u8s q.1)) := jz (HD.out.below hb2)
 have hlt : w.heap.size ≤ w2.heap.size := HB2.out.size
 have hown0 : (w2.alloc (.cells #[] 5)).ownsRow w2.heap.size 5 1 (.slice (some ⟨w2.heap.size, 0, none⟩) 0 0) 0 [] := own_new w2 #[] 5 1 0 w2.heap.size _ (Nat.le_refl _) rfl (by decide) rfl
 clear ho2 hb2 HD hc
 go_wp2_with (first
  | (at_builtin; refine app tByt (.tmp 12) (.tmp 14) rfl rfl rfl hown0 rfl (HD2.out.alloc _) (u8s_mem _) (by unfold maxLen; omega) (by omega) (by simp) ?_; intro v3 w3 hown hgrow _; rw [List.nil_append] at hown; obtain ⟨A3, c3, rfl, _, _, _⟩ := id (Sn.own hown); have HO3 := Lib.hid hown; have HB3 : Hid (Below w2.heap.size w2 w3) := jz ((bel1 w2 _).grown hgrow (by simp) (fun g hg => by cases hg; exact Nat.le_refl _)); clear hown hgrow)
  | (at_builtin; refine app tByt (.tmp 15) (.tmp 16) rfl rfl rfl HO3.out rfl ((Sn.own HO2.out).below HB3.out) (u8s_mem _) (by unfold maxLen; omega) (by omega) HB3.out.size ?_; intro v4 w4 hown hgrow _; rw [← u8s_append] at hown; have HO4 := Lib.hid hown; have HB4 : Hid (Below w2.heap.size w2 w4) := jz (HB3.out.grown hgrow HB3.out.size (fun g hg => (World.ownsRow.lt HO3.out g hg).1)); clear hown hgrow))
 go_ret
 exact ⟨_, rfl, own_base HO4.out hlt, bstep HB2.out HB4.out⟩
theorem write_code (d : DiskD) (a : Int) : isI64 (codeA (writeA d a)) := by
 unfold writeA
 split; · show isI64 12; unfold isI64; omega
 split; · show isI64 12; unfold isI64; omega
 split; · show isI64 11; unfold isI64; omega
 split
 ·show isI64 0; unfold isI64; omega
 ·show isI64 15; unfold isI64; omega
theorem Blk.rangeL {w : World} {g : Nat} {t : TypeId} {cs : List Value} (h : Blk w g t cs.toArray) : w.rangeAt g 0 cs := by have := h.range; rw [List.toList_toArray] at this; exact this
set_option maxHeartbeats 40000000 in
theorem play3 {w0 w : World} {m : DiskM} {d : DiskD} {lv ev : Value} {lo : Option Nat} {lg : Option LogD} {mr : RM} {r : RefD} {v : Value} {L : RLog} (o : Op19) (hpb : PB19 w0 w m d lv ev lo lg mr r v L) (ho : Op19Ok w0 o) (hfw : Few19 o) (h3 : o.kind = 3) (hr : d.room + 40000 ≤ 100000) (hst : r.steps + 60000 ≤ 1000000000) (hop : r.opn.length + 25000 ≤ 50000) :
  Calls Tryz.prog 9 #[.agg (prC m.g lv ev mr r v L), .agg (opC19 o).toArray] w fun e w' => ∃ m' lv' ev' lo' mr' v' vp b, e = .returned (.tuple #[.agg (prC m'.g lv' ev' mr' (opR19 r L o vp).1 v' (opR19 r L o vp).2), .bool b]) ∧ m'.g = m.g ∧ XR19 w0 w w' m lo mr r v m' (opD19 d lg o).1 lv' ev' lo' (opD19 d lg o).2 mr' (opR19 r L o vp).1 v' (opR19 r L o vp).2 := by
 have hlenP : ∀ g lv ev m r v L, (Tryz.prog.info? 39).map (·.size) = some (prC g lv ev m r v L).toList.length := fun _ _ _ _ _ _ _ => prI
 have hlenD : ∀ m r, (Tryz.prog.info? 31).map (·.size) = some (refC m r).toList.length := fun _ _ => refI
 have hlenL : ∀ v L, (Tryz.prog.info? 37).map (·.size) = some (rlC v L).toList.length := fun _ _ => rlI
 obtain ⟨w1, hw1⟩ : ∃ w1, w1 = ((w.alloc (.cells (prC m.g lv ev mr r v L) 39)).alloc (.cells (opC19 o).toArray 46)).alloc (.cells prZ 39) := ⟨_, rfl⟩
 have hb1 : Below w.heap.size w w1 := by rw [hw1]; exact bstep (bstep (bel1 _ _) (bel1 _ _)) (bel1 _ _)
 have h0w := hpb.st.bel.size
 obtain ⟨glx, hglx⟩ : ∃ glx, lo = some glx ∨ (lo = none ∧ w.heap.size ≤ glx) := by
  cases lo with
  | none => exact ⟨w.heap.size, .inr ⟨rfl, Nat.le_refl _⟩⟩
  | some g => exact ⟨g, .inl rfl⟩
 have HX : Hid (PX19 w0 w w1 m lo mr r v glx m d lv ev lo lg mr r v L (prC m.g lv ev mr r v L) prZ o) := Lib.hid ⟨⟨hpb.keep hb1, by rw [hw1]; exact ((Blk.new _ _ _).alloc _).alloc _, by rw [hw1]; exact Blk.newAt _ _ _ _ (by simp), Free.fresh hpb (by omega), Free.fresh hpb (by omega), LT.of_below hb1, fun b hb => .inl hb, fun b _ e => e, ⟨by omega, by omega, by omega, h0w⟩, hglx⟩, by rw [hw1]; exact (Blk.newAt _ _ _ _ (by simp)).alloc _, Free.fresh hpb (by omega)⟩
 have HO := Lib.hid ho
 have HFW := Lib.hid hfw
 have hel := entP_length o.ent ho.ent
 have hqi : (Tryz.prog.info? 43).map (·.size) = some (entP o.ent).length := by rw [hel]; kernel_rfl
 obtain ⟨c0, c1, c2, cE, cm, cc⟩ := op_cells19 ho.ent HX.out.bo
 obtain ⟨Am, nm, em⟩ := ho.more.slc9
 obtain ⟨Ac, nc, ec⟩ := ho.cuts.slc9
 rw [em] at cm
 rw [ec] at cc
 have HMO : Hid (∀ W, Below w0.heap.size w0 W → Sn W 33 (.slice Am o.more.length nm) o.more.length (o.more.flatMap entP)) := jz (fun W hb => by rw [← em]; exact ho.more.below hb)
 have HCU : Hid (∀ W, Below w0.heap.size w0 W → Sn W 1 (.slice Ac o.cuts.length nc) o.cuts.length (i64s o.cuts)) := jz (fun W hb => by rw [← ec]; exact ho.cuts.below hb)
 have HEM := Lib.hid em
 have HEC := Lib.hid ec
 have hk64 := ho.kind
 have hp64 : isI64 o.pos := ho.pos
 have hpos1 : -9223372036854775808 ≤ o.pos := hp64.1
 have hpos2 : o.pos ≤ 1048576 := hfw.2.2.2
 have hm20 : o.more.length ≤ 20 := hfw.2.1
 have hc20 : o.cuts.length ≤ 20 := hfw.1
 have hrd := pr_disk HX.out.x.b1
 have hrl := pr_log HX.out.x.b1
 have HQ3 := Lib.hid h3
 obtain ⟨N, hN'⟩ : ∃ N, N = w.heap.size := ⟨_, rfl⟩
 have HNN := Lib.hid hN'
 clear hb1 hpb hglx h0w ho hfw em ec hk64 h3
 go_enter Tryz.func9, Tryz.ntmps9
 go_upto_region 1 with (refine al 39 prZ rfl rfl zeroPr ?_)
 rw [← hw1]
 clear hw1 hN'
 have t0 : (o.kind == 0) = false := by rw [HQ3.out]; rfl
 have t1 : (o.kind == 1) = false := by rw [HQ3.out]; rfl
 have t2 : (o.kind == 2) = false := by rw [HQ3.out]; rfl
 have t3 : (o.kind == 3) = true := by rw [HQ3.out]; rfl
 have HV : Hid (opD19 d lg o = (writeD d o.pos (recO o), lg) ∧ ∀ vp, opR19 r L o vp = (rwriteD r o.pos (recO o), L)) := Lib.hid ⟨by unfold opD19; rw [if_neg (by rw [HQ3.out]; decide), if_neg (by rw [HQ3.out]; decide), if_neg (by rw [HQ3.out]; decide), if_pos HQ3.out], fun vp => by unfold opR19; rw [if_neg (by rw [HQ3.out]; decide), if_neg (by rw [HQ3.out]; decide), if_neg (by rw [HQ3.out]; decide), if_pos HQ3.out]⟩
 have HMT := jz (fun (W : World) (v : Value) (hs : Sn W 1 v toll.length (u8s toll)) => (show Calls Tryz.prog 26 #[.int .u32 o.gen, v] W fun e w' => e = .returned (.agg (u8s (rec o.gen toll)).toArray) ∧ Below W.heap.size W w' from ref_make o.gen toll v W hs toll_bys (by decide)))
 have HS1 : Hid (Sec (rec o.gen toll)) := Lib.hid ⟨rec_length o.gen toll (by decide), rec_bys o.gen toll toll_bys⟩
 obtain ⟨s1, hs1⟩ : ∃ s, s = rec o.gen toll := ⟨_, rfl⟩
 have HR1 := Lib.hid hs1
 rw [← hs1] at HMT HS1
 clear hs1
 have hL1 : (u8s s1).length = 64 := sec_length HS1.out
 have HL1 := Lib.hid hL1
 have hi1 : (Tryz.prog.info? 72).map (·.size) = some (u8s s1).toArray.size := by rw [List.size_toArray, hL1]; kernel_rfl
 have hz1 : z64.size = (u8s s1).toArray.size := by rw [z64_size, List.size_toArray, hL1]
 have ho1 : (u8s s1).toArray.all (·.oneCell') = true := all_oneCell_toArray (u8s_mem _)
 have HT := jz (toll_sn w1)
 have hcv := Lib.run_convert_bytes_const (P := Tryz.prog) w1 74 5 #[.int .u8 84, .int .u8 79, .int .u8 76, .int .u8 76] 4 4 Tryz.underlying74 Tryz.underlying5
 clear cE cm cc c1
 go_upto_region 13 with (first
  | (go_at_call 26; refine (HMT.out _ _ HT.out).mono ?_; rintro e w2 ⟨rfl, hb2⟩; have HX2 := jz (HX.out.keep (bstep (bel1 _ _) hb2)); clear hb2 hcv HT HMT c0 c2 hrd hrl)
  | (refine al 72 z64 rfl rfl zero64 ?_)
  | (refine stNew (cells := (u8s s1).toArray) 72 (.tmp 7) (.tmp 70) rfl rfl (by rfl) (by rfl) hi1 hz1 ho1 ?_; intro w3 hB3 hb3 hz3; have HB3 := Lib.hid hb3; have HG3 : Hid (Blk w3 w2.heap.size 72 (u8s s1).toArray) := Lib.hid hB3; clear hB3 hb3 hz3))
 have HF := jz (Free.fresh HX2.out.x.pb (Nat.le_refl w2.heap.size))
 have hge : w.heap.size + 3 ≤ w2.heap.size := by have := HX2.out.x.b2.lt; omega
 obtain ⟨g7, hg7⟩ : ∃ g, g = w2.heap.size := ⟨_, rfl⟩
 rw [← hg7] at HF HG3 hge
 simp only [← hg7]
 have HG7 := Lib.hid hg7
 clear hg7 hi1 hz1 ho1
 have HX3 := jz (HX2.out.keep HB3.out)
 have cm := (op_cells19 HO.out.ent HX3.out.bo).2.2.2.2.1
 rw [HEM.out] at cm
 rcases Bool.eq_false_or_eq_true (decide (0 < (o.more.length : Int))) with tm | tm
 ·have hml : ¬ o.more.length = 0 := by have := of_decide_eq_true tm; omega
  have hlq := HO.out.ent.dig.len
  obtain ⟨X, hXe⟩ : ∃ X, X = (o.ent.2 % 18446744073709551616).toNat := ⟨_, rfl⟩
  have HSR : Hid (recO o = rec o.gen (o.ent.1 ++ beB 8 X)) := jz (by unfold recO; rw [if_neg hml, hXe])
  have HPY := jz (fun W => ref_payloadA o.ent W HO.out.ent)
  rw [← hXe] at HPY
  clear hXe
  have HPL : Hid ((o.ent.1 ++ beB 8 X).length = 40) := jz (by rw [List.length_append, beB_length, hlq])
  have HPB : Hid (Bys (o.ent.1 ++ beB 8 X)) := jz (fun b hb => (List.mem_append.1 hb).elim (HO.out.ent.dig.byte b) (beB_bys _ _ b))
  obtain ⟨p, hp⟩ : ∃ p, p = o.ent.1 ++ beB 8 X := ⟨_, rfl⟩
  rw [← hp] at HSR HPL HPB
  simp only [← hp] at HPY
  clear hp hlq
  have HSC : Hid (Sec (rec o.gen p)) := Lib.hid ⟨rec_length o.gen p (by rw [HPL.out]; omega), rec_bys o.gen p HPB.out⟩
  have HME := jz (fun (v : Value) (W : World) (hs : Sn W 1 v p.length (u8s p)) => (show Calls Tryz.prog 26 #[.int .u32 o.gen, v] W fun e w' => e = .returned (.agg (u8s (rec o.gen p)).toArray) ∧ Below W.heap.size W w' from ref_make o.gen p v W hs HPB.out (by rw [HPL.out]; omega)))
  obtain ⟨s2, hs2⟩ : ∃ s, s = rec o.gen p := ⟨_, rfl⟩
  rw [← hs2] at HSR HSC
  simp only [← hs2] at HME
  clear hs2
  have HLS : Hid ((u8s s2).length = 64) := jz (sec_length HSC.out)
  go_upto_region 14 with fail
  obtain ⟨wS, hwS⟩ : ∃ wS, wS = w3.drew := ⟨_, rfl⟩
  have hbS : Below w3.heap.size w3 wS := by rw [hwS]; exact (Below.refl _ _).drew
  have HBS := jz (HG3.out.keep hbS)
  have HWS : Hid (Below w2.heap.size w2 wS) := jz (bstep HB3.out hbS)
  have HXS := jz (HX3.out.keep hbS)
  clear hbS HX3 HB3 HG3 cm
  refine held_start 7 (fun W => Blk W (w.heap.size + 1) 46 (opC19 o).toArray) (by kernel_rfl) (by kernel_rfl) (by rw [← hwS]; exact HXS.out.bo) (fun hHeld => ?_)
  rw [← hwS] at hHeld ⊢
  clear hwS
  refine jT 0 (.fieldAddr 46 (.tmp 3) 2) (some 75) (.pointer (some ⟨w.heap.size + 1, 2, none⟩)) hHeld ?_
  simp only [j1, j2, j3, j4, j5]
  refine jT 1 (.load 35 (.tmp 75)) (some 76) (.int .u32 o.gen) (hy := fun o ho wX hX => by have hcell := (op_cells19 HO.out.ent hX).2.2.1; unfold execOp; simp only [ho]; go_simp) hHeld ?_
  simp only [j1, j2, j3, j4, j5]
  refine jT 2 (.fieldAddr 46 (.tmp 3) 3) (some 77) (.pointer (some ⟨w.heap.size + 1, 3, none⟩)) hHeld ?_
  simp only [j1, j2, j3, j4, j5]
  refine jL 3 43 (.tmp 77) (some 78) (cs := entP o.ent) (fun _ hX => (op_cells19 HO.out.ent hX).2.2.2.1) Tryz.underlying43 rfl hqi hHeld ?_
  simp only [j1, j2, j3, j4, j5]
  refine jW [4] ?_
  refine jC 4 (.call { callee := .value (.func 27), args := #[.tmp 78], argTypes := #[43] }) (some 79) 27 (#[.agg (entP o.ent).toArray]) ?_ jN
  refine (HPY.out wS).mono ?_
  rintro e w4 ⟨v4, rfl, ho4, hb4⟩
  have HO4 := jz (HXS.out.bo.keep hb4)
  have HS4 : Hid (Sn w4 1 v4 p.length (u8s p)) := jz (by rw [HPL.out]; exact Sn.own ho4)
  have HB4 := jz (HBS.out.keep hb4)
  have HW4 : Hid (Below w2.heap.size w2 w4) := jz (bstep HWS.out hb4)
  clear ho4 hb4
  refine ⟨_, rfl, HO4.out, fun hHeld => ?_⟩
  simp only [j1, j2, j3, j4, j5]
  refine jW [5] ?_
  refine jC 5 (.call { callee := .value (.func 26), args := #[.tmp 76, .tmp 79], argTypes := #[35, 74] }) (some 80) 26 (#[.int .u32 o.gen, v4]) ?_ jN
  refine (HME.out v4 w4 HS4.out).mono ?_
  rintro e w5 ⟨rfl, hb5⟩
  have HO5 := jz (HO4.out.keep hb5)
  have HB5 := jz (HB4.out.keep hb5)
  have HW5 : Hid (Below w2.heap.size w2 w5) := jz (bstep HW4.out hb5)
  clear hb5
  refine ⟨_, rfl, HO5.out, fun hHeld => ?_⟩
  simp only [j1, j2, j3, j4, j5]
  have hoth : ∀ k, k ≠ g7 → (w5.setCells g7 0 (u8s s2)).heap[k]? = w5.heap[k]? := fun k hk => setCells_other hk _ _ _
  have hsz1 : (u8s s1).toArray.size = (u8s s2).length := by rw [List.size_toArray, HL1.out, HLS.out]
  have HXT : Hid (PX19 w0 w (w5.setCells g7 0 (u8s s2)) m lo mr r v glx m d lv ev lo lg mr r v L (prC m.g lv ev mr r v L) prZ o) := jz (HX2.out.keep (HW5.out.trans (setCells_below (by rw [HG7.out]; exact Nat.le_refl _) _ _ _).1))
  have HBT : Hid (Blk (w5.setCells g7 0 (u8s s2)) g7 72 (u8s s2).toArray) := jz (Blk.setAll _ HB5.out hsz1)
  have hSS : (fun W => Blk W (w.heap.size + 1) 46 (opC19 o).toArray) (w5.setCells g7 0 (u8s s2)) := HXT.out.bo
  refine jW [6] ?_
  refine jR 6 72 (.tmp 7) (.tmp 80) none (cs := u8s s2) (there_all HB5.out hsz1) (by rw [HLS.out]; kernel_rfl) (u8s_mem _) hSS ?_ jN
  simp only [j1, j2, j3, j4, j5]
  refine wpAnyH_done (by kernel_rfl) ?_ _
  obtain ⟨wt, hwt⟩ : ∃ wz, wz = (w5.setCells g7 0 (u8s s2)) := ⟨_, rfl⟩
  rw [← hwt] at HXT HBT ⊢
  clear hwt hSS hoth hsz1 HXS HBS HWS HO4 HS4 HB4 HW4 HO5 HB5 HW5 HPY HME HPL HPB
  have hrd2 := pr_disk HXT.out.x.b1
  have hr7 := HBT.out.range
  rw [List.toList_toArray] at hr7
  have cP := (op_cells19 HO.out.ent HXT.out.bo).2.1
  have hi7 : (Tryz.prog.info? 72).map (·.size) = some (u8s s2).length := by rw [HLS.out]; kernel_rfl
  have HP := jz (ref_write mr r o.pos s2 wt HXT.out.x.pb.rk HSC.out HO.out.pos (by omega) (by omega))
  obtain ⟨r5, hr5⟩ : ∃ x, x = rwriteD r o.pos s2 := ⟨_, rfl⟩
  obtain ⟨c, hc⟩ : ∃ x, x = rwriteA r o.pos := ⟨_, rfl⟩
  have HR5 := Lib.hid hr5
  rw [← hr5, ← hc] at HP
  clear hr5 hc
  go_upto_region 16 with (first
   | (refine ld 31 _ rfl rfl rfl hrd2 Tryz.underlying31 rfl (hlenD _ _) ?_)
   | (refine ld 72 _ rfl rfl rfl hr7 Tryz.underlying72 rfl hi7 ?_)
   | (go_at_call 28; refine HP.out.mono ?_; rintro e w5 ⟨mr3, rfl, hk3, hb3, hs3⟩; have HX5 := jz (HXT.out.refD hb3 hk3 hs3); have HA5 := jz (HXT.out.x.b1.keep hb3); have HB5 := jz (HBT.out.keep hb3); clear hk3 hb3 hs3)
   | (refine stPartM 31 (.tmp 90) (.tmp 88) rfl rfl [.pointer (some ⟨m.g, 0, none⟩), lv, ev] (refC mr r).toList (rlC v L).toList (refC mr3 r5).toList (by rfl) (by rfl) HA5.out (hlenD _ _) rfl (list_oneO (refC_one HX5.out.x.pb.rk)) ?_; intro w6 hB6 ho6 hz6; have HB6 := Lib.hid hB6; have HO6 := jz (ho6.allO hz6); clear hB6 ho6 hz6))
  have HX6 : Hid (PX19 w0 w w6 m lo mr r v glx m d lv ev lo lg mr3 r5 v L (prC m.g lv ev mr3 r5 v L) prZ o) := jz (HX5.out.st1 HB6.out HO6.out.2 HO6.out.1)
  have HB7 : Hid (Blk w6 g7 72 (u8s s2).toArray) := jz ((HO6.out.1 g7 (by omega)).trans HB5.out)
  have HDW := jz (fun (W : World) (hk : DK W m d) => disk_write o.pos s2 W m d hk HO.out.pos HSC.out (by omega))
  simp only [writeE_val] at HDW
  obtain ⟨x, hx⟩ : ∃ x, x = writeA d o.pos := ⟨_, rfl⟩
  have HCX : Hid (isI64 (codeA x)) := jz (by rw [hx]; exact write_code d o.pos)
  rw [← hx] at HDW
  have HLN : Hid ((writeD d o.pos s2).sec.length = d.sec.length) := jz (writeD_len _ _ _)
  obtain ⟨d8, hd8⟩ : ∃ x, x = writeD d o.pos s2 := ⟨_, rfl⟩
  have HD8 := Lib.hid hd8
  rw [← hd8] at HDW HLN
  clear hx hd8 hrd2 hr7 cP HA5 HB5 HB6 HO6 HX5 HP
  obtain ⟨wS, hwS⟩ : ∃ wS, wS = w6.drew := ⟨_, rfl⟩
  have hbS : Below w6.heap.size w6 wS := by rw [hwS]; exact (Below.refl _ _).drew
  have HXS := jz (HX6.out.keep hbS)
  have HBS := jz (HB7.out.keep hbS)
  clear hbS HX6 HB7
  have HGV : Hid (∀ W, Blk W (w.heap.size) 39 (prC m.g lv ev mr3 r5 v L) → W.cell? ⟨w.heap.size, 0, none⟩ = some (.pointer (some ⟨m.g, 0, none⟩))) := jz (fun W hB => (hB.cell 0).trans rfl)
  refine held_start 12 (fun W => Blk W (w.heap.size) 39 (prC m.g lv ev mr3 r5 v L) ∧ Blk W (w.heap.size + 1) 46 (opC19 o).toArray ∧ Blk W g7 72 (u8s s2).toArray) (by kernel_rfl) (by kernel_rfl) (by rw [← hwS]; exact ⟨HXS.out.x.b1, HXS.out.bo, HBS.out⟩) (fun hHeld => ?_)
  rw [← hwS] at hHeld ⊢
  clear hwS
  refine jL 0 39 (.tmp 2) (some 91) (cs := (prC m.g lv ev mr3 r5 v L).toList) (fun _ hX => hX.1.range) Tryz.underlying39 rfl (hlenP _ _ _ _ _ _ _) hHeld ?_
  simp only [j1, j2, j3, j4, j5]
  refine jT 1 (.fieldAddr 39 (.tmp 2) 0) (some 92) (.pointer (some ⟨w.heap.size, 0, none⟩)) hHeld ?_
  simp only [j1, j2, j3, j4, j5]
  refine jT 2 (.load 25 (.tmp 92)) (some 93) (.pointer (some ⟨m.g, 0, none⟩)) (hy := fun o ho wX hX => by have hcell := HGV.out _ hX.1; unfold execOp; simp only [ho]; go_simp) hHeld ?_
  simp only [j1, j2, j3, j4, j5]
  refine jT 3 (.fieldAddr 46 (.tmp 3) 1) (some 94) (.pointer (some ⟨w.heap.size + 1, 1, none⟩)) hHeld ?_
  simp only [j1, j2, j3, j4, j5]
  refine jT 4 (.load 3 (.tmp 94)) (some 95) (.int .i64 o.pos) (hy := fun o ho wX hX => by have hcell := (op_cells19 HO.out.ent hX.2.1).2.1; unfold execOp; simp only [ho]; go_simp) hHeld ?_
  simp only [j1, j2, j3, j4, j5]
  refine jL 5 72 (.tmp 7) (some 96) (cs := u8s s2) (fun _ hX => Blk.rangeL hX.2.2) Tryz.underlying72 rfl hi7 hHeld ?_
  simp only [j1, j2, j3, j4, j5]
  refine jM 8 (.tmp 6) (some 99) (.int .i64 c) hHeld ?_
  simp only [j1, j2, j3, j4, j5]
  refine jW [6] ?_
  refine jC 6 (.call { callee := .value (.func 29), args := #[.tmp 93, .tmp 95, .tmp 96], argTypes := #[25, 3, 72] }) (some 97) 29 (#[.pointer (some ⟨m.g, 0, none⟩), .int .i64 o.pos, .agg (u8s s2).toArray]) ?_ jN
  refine (HDW.out wS HXS.out.x.pb.st.dk).mono ?_
  rintro e w6b ⟨rfl, m6, hk6, ht6⟩
  have HX6 := jz (HXS.out.disk hk6 ht6 HLN.out)
  have HB6 := jz (HF.out.blk (r := r) HBS.out (LT.of_dt ht6) (.inr (Nat.le_refl _)))
  have HG6 : Hid (m6.g = m.g) := Lib.hid ht6.g
  clear hk6 ht6
  refine ⟨_, rfl, ⟨HX6.out.x.b1, HX6.out.bo, HB6.out⟩, fun hHeld => ?_⟩
  simp only [j1, j2, j3, j4, j5]
  refine jW [7] ?_
  refine jC 7 (.call { callee := .value (.func 22), args := #[.tmp 97], argTypes := #[53] }) (some 98) 22 (#[valE x]) ?_ jN
  refine (code19 x w6b HCX.out).mono ?_
  rintro e w7 ⟨rfl, hb7⟩
  have HX7 := jz (HX6.out.keep hb7)
  have HB7 := jz (HB6.out.keep hb7)
  clear hb7
  refine ⟨_, rfl, ⟨HX7.out.x.b1, HX7.out.bo, HB7.out⟩, fun hHeld => ?_⟩
  simp only [j1, j2, j3, j4, j5]
  refine jT 9 (.binOp .eql 3 (.tmp 98) (.tmp 99) 3) (some 100) (.bool (codeA x == c)) hHeld ?_
  simp only [j1, j2, j3, j4, j5]
  have hoth : ∀ k, k ≠ w.heap.size + 2 → (w7.setCells (w.heap.size + 2) 0 (prC m.g lv ev mr3 r5 v L).toList).heap[k]? = w7.heap[k]? := fun k hk => setCells_other hk _ _ _
  have HX8 : Hid (PX19 w0 w (w7.setCells (w.heap.size + 2) 0 (prC m.g lv ev mr3 r5 v L).toList) m lo mr r v glx m6 _ lv ev lo _ mr3 r5 v L (prC m.g lv ev mr3 r5 v L) (prC m.g lv ev mr3 r5 v L) o) := jz (HX7.out.st2 (Blk.setAll _ HX7.out.x.b2 rfl) (setCells_below (Nat.le_refl _) _ _ _).1 hoth)
  have hSS : (fun W => Blk W (w.heap.size) 39 (prC m.g lv ev mr3 r5 v L) ∧ Blk W (w.heap.size + 1) 46 (opC19 o).toArray ∧ Blk W g7 72 (u8s s2).toArray) (w7.setCells (w.heap.size + 2) 0 (prC m.g lv ev mr3 r5 v L).toList) := ⟨HX8.out.x.b1, HX8.out.bo, (hoth g7 (by omega)).trans HB7.out⟩
  refine jW [10] ?_
  refine jR 10 39 (.tmp 4) (.tmp 91) none (cs := (prC m.g lv ev mr3 r5 v L).toList) (there_all HX7.out.x.b2 rfl) (hlenP _ _ _ _ _ _ _) (list_oneO (prC_one HX6.out.x.pb)) hSS ?_ jN
  simp only [j1, j2, j3, j4, j5]
  refine jW [11] ?_
  refine jS 11 (.assign (.tmp 100)) (some 5) (.bool (codeA x == c)) (w7.setCells (w.heap.size + 2) 0 (prC m.g lv ev mr3 r5 v L).toList) hSS ?_ jN
  simp only [j1, j2, j3, j4, j5]
  refine wpAnyH_done (by kernel_rfl) ?_ _
  obtain ⟨wz, hwz⟩ : ∃ wz, wz = (w7.setCells (w.heap.size + 2) 0 (prC m.g lv ev mr3 r5 v L).toList) := ⟨_, rfl⟩
  rw [← hwz] at HX8 ⊢
  clear hwz hSS hoth
  go_wp2_with fail
  have hrz := HX8.out.x.b2.range
  exact bodyPost_ret (results_cell1 rfl _ rfl hrz Tryz.underlying39 rfl (hlenP _ _ _ _ _ _ _)) rfl ⟨m6, lv, ev, lo, mr3, v, .nilIface, (codeA x == c), by rw [HV.out.2, HSR.out, ← HR5.out, HG6.out]; rfl, HG6.out, by rw [HV.out.1, HV.out.2, HSR.out, ← HR5.out, ← HD8.out]; exact HX8.out.x.ret⟩
 ·have hml : o.more.length = 0 := by have := of_decide_eq_false tm; omega
  have HSR : Hid (recO o = s1) := jz (by unfold recO; rw [if_pos hml, HR1.out])
  have HSC := HS1
  have HLS := HL1
  go_upto_region 15 with fail
  clear cm
  have hrd2 := pr_disk HX3.out.x.b1
  have hr7 := HG3.out.range
  rw [List.toList_toArray] at hr7
  have cP := (op_cells19 HO.out.ent HX3.out.bo).2.1
  have hi7 : (Tryz.prog.info? 72).map (·.size) = some (u8s s1).length := by rw [HLS.out]; kernel_rfl
  have HP := jz (ref_write mr r o.pos s1 w3 HX3.out.x.pb.rk HSC.out HO.out.pos (by omega) (by omega))
  obtain ⟨r5, hr5⟩ : ∃ x, x = rwriteD r o.pos s1 := ⟨_, rfl⟩
  obtain ⟨c, hc⟩ : ∃ x, x = rwriteA r o.pos := ⟨_, rfl⟩
  have HR5 := Lib.hid hr5
  rw [← hr5, ← hc] at HP
  clear hr5 hc
  go_upto_region 16 with (first
   | (refine ld 31 _ rfl rfl rfl hrd2 Tryz.underlying31 rfl (hlenD _ _) ?_)
   | (refine ld 72 _ rfl rfl rfl hr7 Tryz.underlying72 rfl hi7 ?_)
   | (go_at_call 28; refine HP.out.mono ?_; rintro e w5 ⟨mr3, rfl, hk3, hb3, hs3⟩; have HX5 := jz (HX3.out.refD hb3 hk3 hs3); have HA5 := jz (HX3.out.x.b1.keep hb3); have HB5 := jz (HG3.out.keep hb3); clear hk3 hb3 hs3)
   | (refine stPartM 31 (.tmp 90) (.tmp 88) rfl rfl [.pointer (some ⟨m.g, 0, none⟩), lv, ev] (refC mr r).toList (rlC v L).toList (refC mr3 r5).toList (by rfl) (by rfl) HA5.out (hlenD _ _) rfl (list_oneO (refC_one HX5.out.x.pb.rk)) ?_; intro w6 hB6 ho6 hz6; have HB6 := Lib.hid hB6; have HO6 := jz (ho6.allO hz6); clear hB6 ho6 hz6))
  have HX6 : Hid (PX19 w0 w w6 m lo mr r v glx m d lv ev lo lg mr3 r5 v L (prC m.g lv ev mr3 r5 v L) prZ o) := jz (HX5.out.st1 HB6.out HO6.out.2 HO6.out.1)
  have HB7 : Hid (Blk w6 g7 72 (u8s s1).toArray) := jz ((HO6.out.1 g7 (by omega)).trans HB5.out)
  have HDW := jz (fun (W : World) (hk : DK W m d) => disk_write o.pos s1 W m d hk HO.out.pos HSC.out (by omega))
  simp only [writeE_val] at HDW
  obtain ⟨x, hx⟩ : ∃ x, x = writeA d o.pos := ⟨_, rfl⟩
  have HCX : Hid (isI64 (codeA x)) := jz (by rw [hx]; exact write_code d o.pos)
  rw [← hx] at HDW
  have HLN : Hid ((writeD d o.pos s1).sec.length = d.sec.length) := jz (writeD_len _ _ _)
  obtain ⟨d8, hd8⟩ : ∃ x, x = writeD d o.pos s1 := ⟨_, rfl⟩
  have HD8 := Lib.hid hd8
  rw [← hd8] at HDW HLN
  clear hx hd8 hrd2 hr7 cP HA5 HB5 HB6 HO6 HX5 HP
  obtain ⟨wS, hwS⟩ : ∃ wS, wS = w6.drew := ⟨_, rfl⟩
  have hbS : Below w6.heap.size w6 wS := by rw [hwS]; exact (Below.refl _ _).drew
  have HXS := jz (HX6.out.keep hbS)
  have HBS := jz (HB7.out.keep hbS)
  clear hbS HX6 HB7
  have HGV : Hid (∀ W, Blk W (w.heap.size) 39 (prC m.g lv ev mr3 r5 v L) → W.cell? ⟨w.heap.size, 0, none⟩ = some (.pointer (some ⟨m.g, 0, none⟩))) := jz (fun W hB => (hB.cell 0).trans rfl)
  refine held_start 12 (fun W => Blk W (w.heap.size) 39 (prC m.g lv ev mr3 r5 v L) ∧ Blk W (w.heap.size + 1) 46 (opC19 o).toArray ∧ Blk W g7 72 (u8s s1).toArray) (by kernel_rfl) (by kernel_rfl) (by rw [← hwS]; exact ⟨HXS.out.x.b1, HXS.out.bo, HBS.out⟩) (fun hHeld => ?_)
  rw [← hwS] at hHeld ⊢
  clear hwS
  refine jL 0 39 (.tmp 2) (some 91) (cs := (prC m.g lv ev mr3 r5 v L).toList) (fun _ hX => hX.1.range) Tryz.underlying39 rfl (hlenP _ _ _ _ _ _ _) hHeld ?_
  simp only [j1, j2, j3, j4, j5]
  refine jT 1 (.fieldAddr 39 (.tmp 2) 0) (some 92) (.pointer (some ⟨w.heap.size, 0, none⟩)) hHeld ?_
  simp only [j1, j2, j3, j4, j5]
  refine jT 2 (.load 25 (.tmp 92)) (some 93) (.pointer (some ⟨m.g, 0, none⟩)) (hy := fun o ho wX hX => by have hcell := HGV.out _ hX.1; unfold execOp; simp only [ho]; go_simp) hHeld ?_
  simp only [j1, j2, j3, j4, j5]
  refine jT 3 (.fieldAddr 46 (.tmp 3) 1) (some 94) (.pointer (some ⟨w.heap.size + 1, 1, none⟩)) hHeld ?_
  simp only [j1, j2, j3, j4, j5]
  refine jT 4 (.load 3 (.tmp 94)) (some 95) (.int .i64 o.pos) (hy := fun o ho wX hX => by have hcell := (op_cells19 HO.out.ent hX.2.1).2.1; unfold execOp; simp only [ho]; go_simp) hHeld ?_
  simp only [j1, j2, j3, j4, j5]
  refine jL 5 72 (.tmp 7) (some 96) (cs := u8s s1) (fun _ hX => Blk.rangeL hX.2.2) Tryz.underlying72 rfl hi7 hHeld ?_
  simp only [j1, j2, j3, j4, j5]
  refine jM 8 (.tmp 6) (some 99) (.int .i64 c) hHeld ?_
  simp only [j1, j2, j3, j4, j5]
  refine jW [6] ?_
  refine jC 6 (.call { callee := .value (.func 29), args := #[.tmp 93, .tmp 95, .tmp 96], argTypes := #[25, 3, 72] }) (some 97) 29 (#[.pointer (some ⟨m.g, 0, none⟩), .int .i64 o.pos, .agg (u8s s1).toArray]) ?_ jN
  refine (HDW.out wS HXS.out.x.pb.st.dk).mono ?_
  rintro e w6b ⟨rfl, m6, hk6, ht6⟩
  have HX6 := jz (HXS.out.disk hk6 ht6 HLN.out)
  have HB6 := jz (HF.out.blk (r := r) HBS.out (LT.of_dt ht6) (.inr (Nat.le_refl _)))
  have HG6 : Hid (m6.g = m.g) := Lib.hid ht6.g
  clear hk6 ht6
  refine ⟨_, rfl, ⟨HX6.out.x.b1, HX6.out.bo, HB6.out⟩, fun hHeld => ?_⟩
  simp only [j1, j2, j3, j4, j5]
  refine jW [7] ?_
  refine jC 7 (.call { callee := .value (.func 22), args := #[.tmp 97], argTypes := #[53] }) (some 98) 22 (#[valE x]) ?_ jN
  refine (code19 x w6b HCX.out).mono ?_
  rintro e w7 ⟨rfl, hb7⟩
  have HX7 := jz (HX6.out.keep hb7)
  have HB7 := jz (HB6.out.keep hb7)
  clear hb7
  refine ⟨_, rfl, ⟨HX7.out.x.b1, HX7.out.bo, HB7.out⟩, fun hHeld => ?_⟩
  simp only [j1, j2, j3, j4, j5]
  refine jT 9 (.binOp .eql 3 (.tmp 98) (.tmp 99) 3) (some 100) (.bool (codeA x == c)) hHeld ?_
  simp only [j1, j2, j3, j4, j5]
  have hoth : ∀ k, k ≠ w.heap.size + 2 → (w7.setCells (w.heap.size + 2) 0 (prC m.g lv ev mr3 r5 v L).toList).heap[k]? = w7.heap[k]? := fun k hk => setCells_other hk _ _ _
  have HX8 : Hid (PX19 w0 w (w7.setCells (w.heap.size + 2) 0 (prC m.g lv ev mr3 r5 v L).toList) m lo mr r v glx m6 _ lv ev lo _ mr3 r5 v L (prC m.g lv ev mr3 r5 v L) (prC m.g lv ev mr3 r5 v L) o) := jz (HX7.out.st2 (Blk.setAll _ HX7.out.x.b2 rfl) (setCells_below (Nat.le_refl _) _ _ _).1 hoth)
  have hSS : (fun W => Blk W (w.heap.size) 39 (prC m.g lv ev mr3 r5 v L) ∧ Blk W (w.heap.size + 1) 46 (opC19 o).toArray ∧ Blk W g7 72 (u8s s1).toArray) (w7.setCells (w.heap.size + 2) 0 (prC m.g lv ev mr3 r5 v L).toList) := ⟨HX8.out.x.b1, HX8.out.bo, (hoth g7 (by omega)).trans HB7.out⟩
  refine jW [10] ?_
  refine jR 10 39 (.tmp 4) (.tmp 91) none (cs := (prC m.g lv ev mr3 r5 v L).toList) (there_all HX7.out.x.b2 rfl) (hlenP _ _ _ _ _ _ _) (list_oneO (prC_one HX6.out.x.pb)) hSS ?_ jN
  simp only [j1, j2, j3, j4, j5]
  refine jW [11] ?_
  refine jS 11 (.assign (.tmp 100)) (some 5) (.bool (codeA x == c)) (w7.setCells (w.heap.size + 2) 0 (prC m.g lv ev mr3 r5 v L).toList) hSS ?_ jN
  simp only [j1, j2, j3, j4, j5]
  refine wpAnyH_done (by kernel_rfl) ?_ _
  obtain ⟨wz, hwz⟩ : ∃ wz, wz = (w7.setCells (w.heap.size + 2) 0 (prC m.g lv ev mr3 r5 v L).toList) := ⟨_, rfl⟩
  rw [← hwz] at HX8 ⊢
  clear hwz hSS hoth
  go_wp2_with fail
  have hrz := HX8.out.x.b2.range
  exact bodyPost_ret (results_cell1 rfl _ rfl hrz Tryz.underlying39 rfl (hlenP _ _ _ _ _ _ _)) rfl ⟨m6, lv, ev, lo, mr3, v, .nilIface, (codeA x == c), by rw [HV.out.2, HSR.out, ← HR5.out, HG6.out]; rfl, HG6.out, by rw [HV.out.1, HV.out.2, HSR.out, ← HR5.out, ← HD8.out]; exact HX8.out.x.ret⟩
structure BK (w : World) (m : DiskM) (lo : Option Nat) (g : Nat) (t : TypeId) (cs : Array Value) : Prop where
 b : Blk w g t cs
 ap : Apart m g
 ne : lo ≠ some g
structure EK (w : World) (m : DiskM) (lo : Option Nat) (v : Value) (es : List Ent2) : Prop where
 sn : Sn w 33 v es.length (es.flatMap entP)
 nf : 0 < es.length → ∀ b, v.ownBlock = some b → Apart m b ∧ lo ≠ some b ∧ b < w.heap.size
section
variable {w w' : World} {m m' : DiskM} {d d' : DiskD} {lo : Option Nat} {g gl : Nat} {t : TypeId} {cs : Array Value} {v : Value} {es : List Ent2}
theorem BK.keep (k : BK w m lo g t cs) (hb : Below w.heap.size w w') : BK w' m lo g t cs := ⟨k.b.keep hb, k.ap, k.ne⟩
theorem BK.lt (k : BK w m lo g t cs) (ht : LT gl w m w' m') (hg : lo = some gl ∨ w.heap.size ≤ gl) : BK w' m' lo g t cs :=
 ⟨(ht.fo.block g k.b.lt (fun hm => by
  rcases List.mem_cons.1 hm with h1 | h1
  ·rcases hg with h2 | h2
   ·exact k.ne (by rw [h2, h1])
   ·have := k.b.lt; omega
  ·exact k.ap.1 h1)).trans k.b, k.ap.nextP k.b.lt ht, k.ne⟩
theorem BK.dt (k : BK w m lo g t cs) (ht : DT w m w' m') : BK w' m' lo g t cs := k.lt (gl := w.heap.size) (LT.of_dt ht) (.inr (Nat.le_refl _))
theorem BK.re (k : BK w m lo g t cs) {g2 : Nat} (h : w.heap.size ≤ g2) : BK w m (some g2) g t cs := ⟨k.b, k.ap, fun e => by injection e with e; have := k.b.lt; omega⟩
theorem EK.keep (k : EK w m lo v es) (hb : Below w.heap.size w w') : EK w' m lo v es :=
 ⟨k.sn.below hb, fun h0 b e => ⟨(k.nf h0 b e).1, (k.nf h0 b e).2.1, Nat.lt_of_lt_of_le (k.nf h0 b e).2.2 hb.size⟩⟩
theorem EK.lt (k : EK w m lo v es) (ht : LT gl w m w' m') (hg : lo = some gl ∨ w.heap.size ≤ gl) : EK w' m' lo v es := by
 rcases Nat.eq_zero_or_pos es.length with h0 | h0
 ·have hes : es = [] := List.eq_nil_of_length_eq_zero h0
  subst hes
  obtain ⟨A, cap, hv, hc, hl, _⟩ := k.sn
  exact ⟨⟨A, cap, hv, hc, hl, fun h => absurd h (by simp)⟩, fun h => absurd h (by simp)⟩
 ·have hne : ∀ b, v.ownBlock = some b → b ≠ gl := fun b e h => by
   have hn := k.nf h0 b e
   rcases hg with hg | hg
   ·exact hn.2.1 (by rw [hg, h])
   ·have := hn.2.2; omega
  exact ⟨ht.fo.sn k.sn (fun b e hm => (List.mem_cons.1 hm).elim (hne b e) (k.nf h0 b e).1.1), fun h0 b e => ⟨(k.nf h0 b e).1.nextP (k.nf h0 b e).2.2 ht, (k.nf h0 b e).2.1, Nat.lt_of_lt_of_le (k.nf h0 b e).2.2 ht.fo.size⟩⟩
theorem EK.dt (k : EK w m lo v es) (ht : DT w m w' m') : EK w' m' lo v es := k.lt (gl := w.heap.size) (LT.of_dt ht) (.inr (Nat.le_refl _))
theorem EK.re (k : EK w m lo v es) {g2 : Nat} (h : w.heap.size ≤ g2) : EK w m (some g2) v es :=
 ⟨k.sn, fun h0 b e => ⟨(k.nf h0 b e).1, fun e2 => by injection e2 with e2; have := (k.nf h0 b e).2.2; omega, (k.nf h0 b e).2.2⟩⟩
theorem EK.own {B : Nat} (ho : w.ownsRow B 43 33 v es.length (es.flatMap entP)) (ha : ∀ b, v.ownBlock = some b → Apart m b) : EK w m none v es :=
 ⟨Sn.own ho, fun _ b e => ⟨ha b e, fun e2 => (by cases e2), (ho.lt b e).2⟩⟩
theorem St.lt9 {w0 : World} (h : St w0 w m d) (hk : DK w' m' d') (ht : LT gl w m w' m') (hg : w0.heap.size ≤ gl) : St w0 w' m' d' :=
 ⟨hk, ht.le h.ft h.bel.size, h.bel.trans (ht.below h.ft hg h.bel.size)⟩
end
theorem play_any {w0 w : World} {m : DiskM} {d : DiskD} {lv ev : Value} {lo : Option Nat} {lg : Option LogD} {mr : RM} {r : RefD} {v : Value} {L : RLog} (o : Op19) (hpb : PB19 w0 w m d lv ev lo lg mr r v L) (ho : Op19Ok w0 o) (hfw : Few19 o) (hr : d.room + 40000 ≤ 100000) (hst : r.steps + 60000 ≤ 1000000000) (hop : r.opn.length + 25000 ≤ 50000) (hpl : r.plan.length + 1 ≤ 50000) (hN : d.sec.length ≤ 1000) (hN2 : r.sec.length ≤ 1000) :
  Calls Tryz.prog 9 #[.agg (prC m.g lv ev mr r v L), .agg (opC19 o).toArray] w fun e w' => ∃ m' lv' ev' lo' mr' v' vp b, e = .returned (.tuple #[.agg (prC m'.g lv' ev' mr' (opR19 r L o vp).1 v' (opR19 r L o vp).2), .bool b]) ∧ m'.g = m.g ∧ XR19 w0 w w' m lo mr r v m' (opD19 d lg o).1 lv' ev' lo' (opD19 d lg o).2 mr' (opR19 r L o vp).1 v' (opR19 r L o vp).2 := by
 by_cases h3 : o.kind = 3
 ·exact play3 o hpb ho hfw h3 hr hst hop
 ·exact play19 o hpb ho hfw h3 hr hst hop hpl hN hN2
end Go.Proofs.YtillkpjflcgkeaaGreat
