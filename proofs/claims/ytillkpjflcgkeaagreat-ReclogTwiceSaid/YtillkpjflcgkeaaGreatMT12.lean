import Derived.Test.YtillkpjflcgkeaaGreatMT11
set_option linter.unusedSimpArgs false
set_option maxRecDepth 100000
namespace Go.Proofs.YtillkpjflcgkeaaGreat
open Go.RowKit
attribute [local irreducible] wpQuiet wpAnyH
def putD (d : DiskD) (f z p : Int) (g : Nat) (q : List Int × Int) : DiskD := if p < 1 then d else if room z < p then d else if rightE q then wsD d (f + p) (entRec g q) else d
def putA (d : DiskD) (f z p : Int) (g : Nat) (q : List Int × Int) : Ans := if p < 1 then some (13, none) else if room z < p then some (13, none) else if rightE q then wsA d (f + p) (entRec g q) else some (15, none)
theorem entRec_sec (g : Nat) {q : List Int × Int} (hq : EntOk q) : Sec (entRec g q) := by
 have hl : (q.1 ++ beB 8 q.2.toNat).length = 40 := by rw [List.length_append, beB_length, hq.dig.len]
 refine ⟨rec_length g _ (by rw [hl]; omega), rec_bys g _ fun b hb => ?_⟩
 rcases List.mem_append.1 hb with hb | hb
 ·exact hq.dig.byte b hb
 ·exact beB_bys _ _ b hb
theorem pick_sec (g : Nat) {q : List Int × Int} (hq : EntOk q) : Sec (if rightE q then entRec g q else zsec) := by
 split
 ·exact entRec_sec g hq
 ·exact zsec_sec
set_option maxHeartbeats 2000000 in
theorem slot_put (f z p : Int) (g : Nat) (q : List Int × Int) (w : World) (m : DiskM) (d : DiskD) (h : DK w m d) (hf : 0 ≤ f ∧ f ≤ 100000) (hz : isI64 z ∧ z ≤ 100000) (hp : isI64 p) (hg : g < 4294967296) (hq : EntOk q) (hr : d.room + 3 ≤ 100000) :
  Calls Tryz.prog 44 #[.pointer (some ⟨m.g, 0, none⟩), .agg #[.int .i64 f, .int .i64 z], .int .i64 p, .int .u32 g, .agg (entP q).toArray] w fun e w' => e = .returned (valE (putA d f z p g q)) ∧ ∃ m', DK w' m' (putD d f z p g q) ∧ DT w m w' m' := by
 have hB0 : Below w.heap.size w ((w.alloc (.cells #[.int .i64 f, .int .i64 z] 85)).alloc (.cells (entP q).toArray 43)) := ((Below.refl _ w).alloc (Nat.le_refl _) _).alloc (by simp) _
 obtain ⟨w1, hw1⟩ : ∃ w1, w1 = (w.alloc (.cells #[.int .i64 f, .int .i64 z] 85)).alloc (.cells (entP q).toArray 43) := ⟨_, rfl⟩
 have HK1 : Hid (DK w1 m d) := jz (by rw [hw1]; exact h.keep hB0)
 have HB1 : Hid (Below w.heap.size w w1) := jz (by rw [hw1]; exact hB0)
 have HX1 : Hid (Blk w1 w.heap.size 85 #[.int .i64 f, .int .i64 z]) := jz (by rw [hw1]; exact (Blk.new w _ _).alloc _)
 have HR1 : Hid (w1.rangeAt w.heap.size 0 [.int .i64 f, .int .i64 z]) := jz (by have := HX1.out.range; exact this)
 have HE1 : Hid (Blk w1 (w.heap.size + 1) 43 (entP q).toArray) := jz (by rw [hw1]; exact Blk.newAt _ _ _ _ (by simp))
 have HNF := jz (h.notFoot (Nat.le_refl w.heap.size))
 have HSR : Hid (Sec (entRec g q)) := jz (entRec_sec g hq)
 have HSP := jz (pick_sec g hq)
 have HEL : Hid ((Tryz.prog.info? 43).map (·.size) = some (entP q).length) := jz (by rw [entP_length q hq]; kernel_rfl)
 have HPZ : Hid ((Tryz.prog.info? 72).map (·.size) = some (u8s (if rightE q then entRec g q else zsec)).toArray.size ∧ z64.size = (u8s (if rightE q then entRec g q else zsec)).toArray.size) := Lib.hid ⟨by rw [List.size_toArray, sec_length HSP.out]; kernel_rfl, by rw [z64_size, List.size_toArray, sec_length HSP.out]⟩
 have hst := h.ok.st
 have hf1 : 0 ≤ f := hf.1
 have hf2 : f ≤ 100000 := hf.2
 have hp1 : -9223372036854775808 ≤ p := hp.1
 have hp2 : p ≤ 9223372036854775807 := hp.2
 have hrz : room z ≤ 100000 := by unfold room; split <;> omega
 clear h hB0 hf hp
 rcases Bool.eq_false_or_eq_true (decide (p < 1)) with t1 | t1
 ·have HF : Hid (putA d f z p g q = some (13, none) ∧ putD d f z p g q = d) := jz (by unfold putA putD; rw [if_pos (of_decide_eq_true t1), if_pos (of_decide_eq_true t1)]; exact ⟨rfl, rfl⟩)
  go_enter Tryz.func44, Tryz.ntmps44
  go_upto_region 1 with fail
  rw [← hw1]
  clear hw1
  go_wp2_with fail
  go_ret
  exact ⟨by rw [HF.out.1]; rfl, m, by rw [HF.out.2]; exact HK1.out, DT.of_below HB1.out⟩
 ·have hp0 : ¬ p < 1 := of_decide_eq_false t1
  go_enter Tryz.func44, Tryz.ntmps44
  go_upto_region 1 with fail
  rw [← hw1]
  clear hw1
  go_wp2_with (refine ld 85 _ rfl rfl rfl HR1.out Tryz.underlying85 rfl (by kernel_rfl) ?_)
  refine (slot_room f z w1 hz.1).mono ?_
  rintro e w2 ⟨rfl, hb2⟩
  have HB2 : Hid (Below w.heap.size w w2) := jz (bstep HB1.out hb2)
  have HX2 : Hid (Blk w2 w.heap.size 85 #[.int .i64 f, .int .i64 z]) := jz (HX1.out.keep hb2)
  have HE2 : Hid (w2.rangeAt (w.heap.size + 1) 0 (entP q)) := jz (by have := (HE1.out.keep hb2).range; rw [List.toList_toArray] at this; exact this)
  have HK2 := jz (HK1.out.keep hb2)
  obtain ⟨R, hR⟩ : ∃ R, R = room z := ⟨_, rfl⟩
  have HRR := Lib.hid hR
  rw [← hR] at hrz ⊢
  clear hb2 hR
  rcases Bool.eq_false_or_eq_true (decide (R < p)) with t2 | t2
  ·have HF : Hid (putA d f z p g q = some (13, none) ∧ putD d f z p g q = d) := jz (by unfold putA putD; rw [if_neg (show ¬ p < 1 by omega), if_neg (show ¬ p < 1 by omega), ← HRR.out, if_pos (of_decide_eq_true t2), if_pos (of_decide_eq_true t2)]; exact ⟨rfl, rfl⟩)
   clear hp0
   go_wp2_with fail
   go_ret
   exact ⟨by rw [HF.out.1]; rfl, m, by rw [HF.out.2]; exact HK2.out, DT.of_below HB2.out⟩
  ·have hp3 : p ≤ R := by have := of_decide_eq_false t2; omega
   have HF0 : Hid (putA d f z p g q = (if rightE q then wsA d (f + p) (entRec g q) else some (15, none)) ∧ putD d f z p g q = (if rightE q then wsD d (f + p) (entRec g q) else d)) := jz (by unfold putA putD; rw [if_neg (show ¬ p < 1 by omega), if_neg (show ¬ p < 1 by omega), ← HRR.out, if_neg (of_decide_eq_false t2), if_neg (of_decide_eq_false t2)]; exact ⟨rfl, rfl⟩)
   have hp4 : 1 ≤ p := by omega
   clear hp0 HRR
   go_wp2_with (refine ld 43 _ rfl rfl rfl HE2.out Tryz.underlying43 rfl HEL.out ?_)
   refine (frame_entry g q w2 hq hg).mono ?_
   rintro e w3 ⟨rfl, hb3⟩
   have HB3 : Hid (Below w.heap.size w w3) := jz (bstep HB2.out hb3)
   have HX3 : Hid (Blk w3 w.heap.size 85 #[.int .i64 f, .int .i64 z]) := jz (HX2.out.keep hb3)
   have HK3 := jz (HK2.out.keep hb3)
   have hlt3 : w.heap.size < w3.heap.size := HX3.out.lt
   clear hb3
   obtain ⟨S, hS⟩ : ∃ S, S = (if rightE q then entRec g q else zsec) := ⟨_, rfl⟩
   rw [← hS] at HPZ HSP ⊢
   have HS1 := jz (u8s_one S)
   cases hrq : rightE q with
   | false =>
    have HF : Hid (putA d f z p g q = some (15, none) ∧ putD d f z p g q = d) := jz (by rw [HF0.out.1, HF0.out.2, hrq]; exact ⟨rfl, rfl⟩)
    clear hrq hS HF0
    go_wp2_with (first
     | (refine al 72 z64 rfl rfl zero64 ?_)
     | (refine stNew 72 (.tmp 11) (.tmp 27) rfl rfl rfl rfl HPZ.out.1 HPZ.out.2 HS1.out ?_; intro w4 hK hb4 hz4; have HB4 := Lib.hid hb4; clear hK hb4 hz4))
    go_ret
    exact ⟨by rw [HF.out.1]; rfl, m, by rw [HF.out.2]; exact HK3.out.keep HB4.out, DT.of_below (HB3.out.trans (HB4.out.mono HB3.out.size))⟩
   | true =>
    rw [hrq] at hS HF0
    replace hS : S = entRec g q := hS
    replace HF0 : Hid (putA d f z p g q = wsA d (f + p) (entRec g q) ∧ putD d f z p g q = wsD d (f + p) (entRec g q)) := HF0
    rw [← hS] at HF0
    clear hrq hS
    have hcb : ∀ w4, Below w3.heap.size w3 w4 → w4.cell? ⟨w.heap.size, 0, none⟩ = some (.int .i64 f) := fun w4 hb => (HX3.out.keep hb).cell 0
    have HCB := Lib.hid hcb
    have HUS : Hid ((Tryz.prog.info? 72).map (·.size) = some (u8s S).length) := jz (by rw [sec_length HSP.out]; kernel_rfl)
    clear hcb
    go_wp2_with (first
     | (refine al 72 z64 rfl rfl zero64 ?_)
     | (refine stNew 72 (.tmp 11) (.tmp 27) rfl rfl rfl rfl HPZ.out.1 HPZ.out.2 HS1.out ?_; intro w4 hK hb4 hz4; have HB4 := Lib.hid hb4; have HR4 : Hid (w4.rangeAt w3.heap.size 0 (u8s S)) := jz (by have := Blk.range (show Blk w4 w3.heap.size 72 (u8s S).toArray from hK); rw [List.toList_toArray] at this; exact this); have hc4 := HCB.out w4 hb4; clear hK hb4 hz4)
     | (refine ld 72 _ rfl rfl rfl HR4.out Tryz.underlying72 rfl HUS.out ?_))
    have HK4 := jz (HK3.out.keep HB4.out)
    have HB40 : Hid (Below w.heap.size w w4) := jz (HB3.out.trans (HB4.out.mono HB3.out.size))
    refine (disk_write (f + p) S w4 m d HK4.out ⟨by omega, by omega⟩ HSP.out (by omega)).mono ?_
    rintro e w5 ⟨rfl, m5, hdk, hdt⟩
    rw [writeE_val]
    have HDT : Hid (DT w m w5 m5) := jz ((DT.of_below HB40.out).trans hdt)
    have HDK := Lib.hid hdk
    have HRM : Hid ((writeD d (f + p) S).room ≤ d.room + 2) := jz (writeD_room hst (f + p) _)
    clear hdk hdt hc4
    have hg3 : m5.g = m.g := HDT.out.g
    cases ha : writeA d (f + p) with
    | some x =>
     have HF : Hid (putA d f z p g q = some x ∧ putD d f z p g q = writeD d (f + p) S) := jz (by rw [HF0.out.1, HF0.out.2]; unfold wsA wsD; rw [ha]; exact ⟨rfl, rfl⟩)
     obtain ⟨t, u, hv⟩ := valE_form x
     rw [hv]
     have HV := Lib.hid hv
     have hne := neq_nil t u
     clear ha hv
     go_wp2_with fail
     go_ret
     exact ⟨by rw [HF.out.1, HV.out]; rfl, m5, by rw [HF.out.2]; exact HDK.out, HDT.out⟩
    | none =>
     have HF : Hid (putA d f z p g q = syncA (writeD d (f + p) S) ∧ putD d f z p g q = syncS (writeD d (f + p) S)) := jz (by rw [HF0.out.1, HF0.out.2]; unfold wsA wsD; rw [ha]; exact ⟨rfl, rfl⟩)
     have hv : valE none = .nilIface := rfl
     rw [hv]
     clear ha
     go_wp2_with fail
     rw [← hg3]
     refine (disk_sync w5 m5 _ HDK.out (by have := HRM.out; omega)).mono ?_
     rintro e w6 ⟨rfl, m6, hdk4, hdt4⟩
     have HD4 := Lib.hid hdk4
     have HT4 : Hid (DT w m w6 m6) := jz (HDT.out.trans hdt4)
     clear hdk4 hdt4
     go_wp2_with fail
     go_ret
     exact ⟨by rw [HF.out.1, ← syncE_val]; rfl, m6, by rw [HF.out.2]; exact HD4.out, HT4.out⟩
theorem setCells_partM {w : World} {g : Nat} {t : TypeId} (pre mid post new : List Value) (hB : Blk w g t (pre ++ mid ++ post).toArray) (hl : mid.length = new.length) :
  Blk (w.setCells g pre.length new) g t (pre ++ new ++ post).toArray ∧ Off g w (w.setCells g pre.length new) ∧ (w.setCells g pre.length new).heap.size = w.heap.size := by
 have h1 := setCells_blk new pre.length w _ hB
 rw [part_eqM pre mid post new hl] at h1
 have h2 := (setCells_below (Nat.le_refl g) new pre.length w)
 exact ⟨h1, ⟨h2.1.os, h2.1.tape, h2.1.output, by omega, fun k _ hk => setCells_other hk new pre.length w⟩, h2.2⟩
theorem stPartM {P : Program} {ops : Array Oper} {rest : List Oper} {o : Oper} {a : Act} {w : World} {Q : Exit → Act → World → Prop} (ty : TypeId) (x y : Operand) (ho : o.op = .store ty x y) (hw : Region.wanted o (yielded ops a.tmps) = true)
  {g t : Nat} (pre mid post new : List Value) (hx : a.eval x = .pointer (some ⟨g, pre.length, none⟩)) (hy : a.eval y = .agg new.toArray) (hB : Blk w g t (pre ++ mid ++ post).toArray)
  (hi : (P.info? ty).map (·.size) = some new.length) (hl : mid.length = new.length) (h1 : ∀ u ∈ new, u.oneCell' = true)
  (h : ∀ w2, Blk w2 g t (pre ++ new ++ post).toArray → Off g w w2 → w2.heap.size = w.heap.size → wpList P ops Q rest (a.put o.dst undef) w2) :
  wpList P ops Q (o :: rest) a w :=
 wpList_step fun K hK => by
  rw [if_pos hw]
  refine wp_store_mid ty x y ho g pre.length new.toArray hx hy (there_blk hB (by simp; omega)) (by simpa using hi) (all_oneCell_toArray h1) ?_
  rw [List.toList_toArray]
  obtain ⟨h2, h3, h4⟩ := setCells_partM pre mid post new hB hl
  exact hK _ _ (h _ h2 h3 h4)
def fillW : DiskD → Int → List (List Int) → Ans × DiskD
 | d, _, [] => (syncA d, syncS d)
 | d, a, s :: r => match writeA d a with | some x => (some x, writeD d a s) | none => fillW (writeD d a s) (a + 1) r
def fillR (d : DiskD) (f z : Int) (g : Nat) (l : List (List Int × Int)) : Ans × DiskD :=
 if room z < l.length then (some (13, none), d) else if l.all rightE then fillW d (f + 1) (l.map (entRec g)) else (some (15, none), d)
def recsAt (g : Nat) (l : List (List Int × Int)) (k : Nat) : List Value := ((l.take k).map (entRec g) ++ List.replicate (l.length - k) zsec).flatMap u8s
theorem recsAt_zero (g : Nat) (l : List (List Int × Int)) : recsAt g l 0 = (List.replicate l.length zsec).flatMap u8s := by simp [recsAt]
theorem recsAt_all (g : Nat) (l : List (List Int × Int)) : recsAt g l l.length = (l.map (entRec g)).flatMap u8s := by simp [recsAt]
theorem flat64 (L : List (List Int)) (h : ∀ s ∈ L, Sec s) : (L.flatMap u8s).length = L.length * 64 := by
 induction L with
 | nil => rfl
 | cons s L ih =>
  rw [List.flatMap_cons, List.length_append, ih fun x hx => h x (by simp [hx]), sec_length (h s (by simp)), List.length_cons]
  omega
theorem recs_split (g : Nat) (l : List (List Int × Int)) (hl : ∀ q ∈ l, EntOk q) (k : Nat) (hk : k < l.length) : ∃ pre post, recsAt g l k = pre ++ u8s zsec ++ post ∧ recsAt g l (k + 1) = pre ++ u8s (entRec g l[k]) ++ post ∧ pre.length = k * 64 := by
 refine ⟨((l.take k).map (entRec g)).flatMap u8s, (List.replicate (l.length - (k + 1)) zsec).flatMap u8s, ?_, ?_, ?_⟩
 ·unfold recsAt
  rw [show l.length - k = (l.length - (k + 1)) + 1 by omega, List.replicate_succ, List.flatMap_append, List.flatMap_cons, List.append_assoc]
 ·unfold recsAt
  rw [List.take_succ_eq_append_getElem hk, List.map_append, List.flatMap_append, List.flatMap_append]
  simp
 ·rw [flat64 _ (fun s hs => by
   obtain ⟨q, hq, rfl⟩ := List.mem_map.1 hs
   exact entRec_sec g (hl q (List.mem_of_mem_take hq)))]
  rw [List.length_map, List.length_take, Nat.min_eq_left (by omega)]
theorem ent_row {w : World} {A : Option Addr} {cap : Nat} {l : List (List Int × Int)} (h : Sn w 33 (.slice A l.length cap) l.length (l.flatMap entP)) (hok : ∀ q ∈ l, EntOk q) (k : Nat) (hk : k < l.length) :
  ∃ b off, A = some ⟨b, off, none⟩ ∧ w.rangeAt b (off + k * 33) (entP l[k]) := by
 obtain ⟨b, off, rfl, hr⟩ := h.range k hk
 rw [flatMap_pieceM entP 33 l (fun q hq => entP_length q (hok q hq)) k hk] at hr
 exact ⟨b, off, rfl, hr⟩
theorem fillW_cons (d : DiskD) (a : Int) (L : List (List Int)) (k : Nat) (hk : k < L.length) : fillW d a (L.drop k) = match writeA d a with | some x => (some x, writeD d a L[k]) | none => fillW (writeD d a L[k]) (a + 1) (L.drop (k + 1)) := by
 rw [List.drop_eq_getElem_cons hk]; rfl
end Go.Proofs.YtillkpjflcgkeaaGreat
