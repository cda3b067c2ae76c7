import Derived.Test.YtillkpjflcgkeaaGreatMT8
import Derived.Test.YtillkpjflcgkeaaGreatMT1
import Derived.Defers
import Derived.Recover
import Derived.Deep.QuietTactic
import Derived.BigQuiet
import Derived.Test.YtillkpjflcgkeaaGreatMT4
import Derived.Test.YtillkpjflcgkeaaGreatMT2
set_option linter.unusedSimpArgs false
set_option maxRecDepth 100000
namespace Go.Proofs.YtillkpjflcgkeaaGreat
open Go.RowKit
attribute [local irreducible] wpQuiet wpAnyH
def planC (d : DiskD) (n : Int) (cl : List Int) : DiskD := if n < 1 then d else { d with cr := fun k => if k = (d.steps : Int) + n then some cl else d.cr k, room := d.room + 1 }
def planF (d : DiskD) (n : Int) : DiskD := if n < 1 then d else { d with fl := fun k => if k = (d.steps : Int) + n then true else d.fl k, room := d.room + 1 }
theorem DK.planC {w w' : World} {m : DiskM} {d : DiskD} (h : DK w m d) {K : Int} {cs : List Int} {v : Value} (hb : ∀ k, k < w.heap.size → k ≠ m.bc → w'.heap[k]? = w.heap[k]?) (hsz : w.heap.size ≤ w'.heap.size) (hu : UM w' m.bc (d.room + 1) (uput m.cv K v)) (hv : Sn w' 1 v cs.length (i64s cs)) (hvb : ∀ b, v.ownBlock = some b → b ∉ foot m ∧ b < w'.heap.size) (hl : cs.length ≤ 1000000) (hr : d.room + 1 ≤ 100000) :
  DK w' { m with cv := uput m.cv K v } { d with cr := fun k => if k = K then some cs else d.cr k, room := d.room + 1 } := by
 have hn := foot_nd h.nd
 refine ⟨(hb m.g h.blk.lt hn.2.2.1).trans h.blk, own_blk h.sec fun b hx => hb b (h.sec.lt b hx).2 (hn.2.2.2.2.2.2.1 b hx).2.2.2, own_blk h.opn fun b hx => hb b (h.opn.lt b hx).2 (hn.2.2.2.2.2.2.2.1 b hx).2.2.2, (h.last.of_block (hb _ h.last.lt hn.2.2.2.2.1)).mono (Nat.le_succ _), (h.fl.of_block (hb _ h.fl.lt hn.2.2.2.2.2.1)).mono (Nat.le_succ _), hu, h.nd, h.flv, fun k hk => ?_, ⟨h.ok.sec, h.ok.opn, h.ok.few, Nat.le_succ_of_le h.ok.lo, Nat.le_succ_of_le h.ok.st, hr, fun k c e => ?_⟩⟩
 ·show match (if k = K then some cs else d.cr k) with | none => uput m.cv K v k = none | some cs' => ∃ u, uput m.cv K v k = some u ∧ Sn w' 1 u cs'.length (i64s cs') ∧ ∀ b, u.ownBlock = some b → b ∉ foot m ∧ b < w'.heap.size
  unfold uput
  by_cases e : k = K
  ·rw [if_pos e, if_pos e]
   exact ⟨v, rfl, hv, hvb⟩
  ·rw [if_neg e, if_neg e]
   have h3 := h.crv k hk
   cases hc : d.cr k with
   | none => rw [hc] at h3; exact h3
   | some c =>
    rw [hc] at h3
    obtain ⟨u, h4, h5, h6⟩ := h3
    refine ⟨u, h4, ?_, fun b e => ⟨(h6 b e).1, Nat.lt_of_lt_of_le (h6 b e).2 hsz⟩⟩
    obtain ⟨A, cap, rfl, hc1, hl, hx⟩ := h5
    refine ⟨A, cap, rfl, hc1, hl, fun hp => ?_⟩
    obtain ⟨b, off, rfl, hcell⟩ := hx hp
    exact ⟨b, off, rfl, fun j u hj => (World.cell?_of_block (a := ⟨b, off + j, none⟩) (hb b (h6 b rfl).2 (fun e => (h6 b rfl).1 (by rw [e]; exact foot_bc m)))).trans (hcell j u hj)⟩
 ·have e : (if k = K then some cs else d.cr k) = some c := e
  split at e
  ·have := Option.some.inj e; rw [← this]; exact hl
  ·exact h.ok.cl k c e
theorem DK.planF {w w' : World} {m : DiskM} {d : DiskD} (h : DK w m d) {K : Int} (hb : ∀ k, k < w.heap.size → k ≠ m.bf → w'.heap[k]? = w.heap[k]?) (hsz : w.heap.size ≤ w'.heap.size) (hu : UM w' m.bf (d.room + 1) (uput m.fv K (.bool true))) (hr : d.room + 1 ≤ 100000) :
  DK w' { m with fv := uput m.fv K (.bool true) } { d with fl := fun k => if k = K then true else d.fl k, room := d.room + 1 } := by
 have hn := foot_nd h.nd
 refine h.re rfl [m.bf] (fun k hk => by rw [List.mem_singleton] at hk; rw [hk]; exact foot_bf m) (fun k hk hm => hb k hk (by simpa using hm)) hsz ((hb m.g h.blk.lt hn.2.1).trans h.blk) (own_blk h.sec fun b hx => hb b (h.sec.lt b hx).2 (hn.2.2.2.2.2.2.1 b hx).2.2.1) (own_blk h.opn fun b hx => hb b (h.opn.lt b hx).2 (hn.2.2.2.2.2.2.2.1 b hx).2.2.1) ((h.last.of_block (hb _ h.last.lt hn.2.2.2.1)).mono (Nat.le_succ _)) hu ((h.cr.of_block (hb _ h.cr.lt (fun e => hn.2.2.2.2.2.1 e.symm))).mono (Nat.le_succ _)) h.nd (fun b hb => .inl hb) (fun k hk => ?_) (fun k hk => .inr ⟨rfl, rfl⟩) ⟨h.ok.sec, h.ok.opn, h.ok.few, Nat.le_succ_of_le h.ok.lo, Nat.le_succ_of_le h.ok.st, hr, h.ok.cl⟩
 show (uput m.fv K (.bool true) k).getD (.bool false) = .bool (if k = K then true else d.fl k)
 unfold uput
 by_cases e : k = K
 ·rw [if_pos e, if_pos e]; rfl
 ·rw [if_neg e, if_neg e]; exact h.flv k hk
theorem tIntD : SlT Tryz.prog 44 3 1 8 := SlT.mk' Tryz.underlying44 (z := .int .i64 0) (by kernel_rfl) rfl (by decide)
theorem i64s_one (l : List Int) : ∀ u ∈ i64s l, u.oneCell' = true := by
 intro u hu
 simp only [i64s, List.mem_map] at hu
 obtain ⟨_, _, rfl⟩ := hu
 rfl
set_option maxHeartbeats 1000000 in
theorem clone_ints (va : Value) (n : Nat) (xs : List Value) (w : World) (hs : Sn w 1 va n xs) (h1 : ∀ u ∈ xs, u.oneCell' = true) (hn : n ≤ 1000000) :
  Calls Tryz.prog 58 #[va] w fun e w' => ∃ v, e = .returned v ∧ Sn w' 1 v n xs ∧ (∀ b, v.ownBlock = some b → w.heap.size ≤ b ∧ b < w'.heap.size) ∧ Below w.heap.size w w' := by
 obtain ⟨A, cap, rfl, hcap, hl, hx⟩ := id hs
 have HS := Lib.hid hs
 have HX := Lib.hid hx
 clear hx
 cases A with
 | none =>
  have heq : ∀ w : World, (binOp .eql 44 (.slice none n cap) (.slice none 0 0)).run Tryz.prog w = .ok (.bool true) w := fun _ => rfl
  go_enter Tryz.func58, Tryz.ntmps58
  go_wp2_with fail
  go_ret
  have hn0 : n = 0 := by
   rcases Nat.eq_zero_or_pos n with h | h
   ·exact h
   ·obtain ⟨b, off, e, _⟩ := HX.out h
    cases e
  subst hn0
  exact ⟨_, rfl, ⟨none, 0, rfl, Nat.le_refl _, hl, fun h => absurd h (by omega)⟩, (fun b e => by cases e), Below.refl _ _⟩
 | some a =>
  have heq : ∀ w : World, (binOp .eql 44 (.slice (some a) n cap) (.slice none 0 0)).run Tryz.prog w = .ok (.bool false) w := fun _ => rfl
  have hown : (w.alloc (.cells #[] 3)).ownsRow w.heap.size 3 1 (.slice (some ⟨w.heap.size, 0, none⟩) 0 0) 0 [] := own_new w #[] 3 1 0 w.heap.size w.heap.size (Nat.le_refl _) rfl (by unfold maxLen; omega) rfl
  go_enter Tryz.func58, Tryz.ntmps58
  clear hs
  go_wp2_with (at_builtin; refine app tIntD (.tmp 5) (.tmp 6) rfl rfl rfl hown rfl (HS.out.alloc _) h1 (by unfold maxLen; omega) (by omega) (by simp) ?_; intro v' w3 hown3 hgrow _)
  go_ret
  have hb : Below w.heap.size w w3 := ((Below.refl _ w).alloc (Nat.le_refl _) _).grown hgrow (by simp) (fun g hg => by have := (hown.lt g hg).1; omega)
  have hlt := hown3.lt
  have := Sn.own hown3
  rw [Nat.zero_add, List.nil_append] at this
  exact ⟨_, rfl, this, fun b e => hlt b e, hb⟩
set_option maxHeartbeats 4000000 in
theorem disk_fail (n : Int) (w : World) (m : DiskM) (d : DiskD) (h : DK w m d) (hn1 : n ≤ 1000000000) (hr : d.room + 1 ≤ 100000) :
  Calls Tryz.prog 30 #[.pointer (some ⟨m.g, 0, none⟩), .int .i64 n] w fun e w' => e = .returned (.tuple #[]) ∧ ∃ m', DK w' m' (planF d n) ∧ DT w m w' m' := by
 have H := Lib.hid h
 have hst : d.steps ≤ 100000 := Nat.le_trans h.ok.st h.ok.rm
 clear h
 rcases Bool.eq_false_or_eq_true (decide (1 ≤ n)) with t1 | t1
 ·have h1 : 1 ≤ n := of_decide_eq_true t1
  have HF : Hid (planF d n = { d with fl := fun k => if k = (d.steps : Int) + n then true else d.fl k, room := d.room + 1 }) := jz (by unfold planF; rw [if_neg (by omega)])
  have hk : isI64 ((d.steps : Int) + n) := by unfold isI64; omega
  obtain ⟨w3, HRUN, HUL3, HT3⟩ : ∃ w3, Hid ((Instr.mapUpdate 63 (.map (some m.bf)) (.int .i64 ((d.steps : Int) + n)) (.bool true)).run Tryz.prog w.drew = .ok () w3) ∧ Hid (UM w3 m.bf (d.room + 1) (uput m.fv ((d.steps : Int) + n) (.bool true))) ∧ Hid (w.drew.grownBy w3 (some m.bf)) := by
   obtain ⟨w3, h1, h2, h3⟩ := UM.put_run (w := w.drew) Tryz.underlying63 H.out.fl hk (.bool true) (by unfold maxLen; omega)
   exact ⟨w3, Lib.hid h1, Lib.hid h2, Lib.hid h3.grown⟩
  have HB3 : Hid (∀ k, k < w.heap.size → k ≠ m.bf → w3.heap[k]? = w.heap[k]?) := jz (fun k hk hn => HT3.out.block k hk (fun e => hn (Option.some.inj e)))
  have HDK : Hid (DK w3 { m with fv := uput m.fv ((d.steps : Int) + n) (.bool true) } (planF d n)) := jz (by rw [HF.out]; exact H.out.planF HB3.out HT3.out.size HUL3.out hr)
  have HDT : Hid (DT w m w3 { m with fv := uput m.fv ((d.steps : Int) + n) (.bool true) }) := Lib.hid ⟨rfl, ⟨HT3.out.os, HT3.out.tape, HT3.out.output, HT3.out.size, fun k hk hm => HB3.out k hk (fun e => hm (by rw [e]; exact foot_bf m))⟩, fun b hb => .inl hb, fun _ _ h => .inl h⟩
  have HS0 : Hid (w.drew.cell? ⟨m.g, 5, none⟩ = some (.map (some m.bf)) ∧ w.drew.cell? ⟨m.g, 4, none⟩ = some (.int .i64 (d.steps : Int))) := Lib.hid ⟨H.out.blk.cell 5, H.out.blk.cell 4⟩
  have HS3 : Hid (w3.cell? ⟨m.g, 5, none⟩ = some (.map (some m.bf)) ∧ w3.cell? ⟨m.g, 4, none⟩ = some (.int .i64 (d.steps : Int))) := jz (by
   have hB : Blk w3 m.g 67 (diskC m d) := (HB3.out m.g H.out.blk.lt (foot_nd H.out.nd).2.1).trans H.out.blk
   exact ⟨hB.cell 5, hB.cell 4⟩)
  have y1 : IntKind.i64.wrap ((d.steps : Int) + n) = (d.steps : Int) + n := IntWalk.i64_in _ (by omega)
  clear hk
  go_enter Tryz.func30, Tryz.ntmps30
  go_wp2_with fail
  refine held_start 11 (fun wz => wz.cell? ⟨m.g, 5, none⟩ = some (.map (some m.bf)) ∧ wz.cell? ⟨m.g, 4, none⟩ = some (.int .i64 (d.steps : Int))) (by kernel_rfl) (by kernel_rfl) (HS0.out) (fun hHeld => ?_)
  refine jM 0 (.tmp 0) (some 10) (.pointer (some ⟨m.g, 0, none⟩)) hHeld ?_
  simp only [j1, j2, j3, j4, j5]
  refine jT 1 (.nilCheck (.tmp 10)) (some 11) (.pointer (some ⟨m.g, 0, none⟩)) hHeld ?_
  simp only [j1, j2, j3, j4, j5]
  refine jT 2 (.fieldAddr 67 (.tmp 11) 5) (some 12) (.pointer (some ⟨m.g, 5, none⟩)) hHeld ?_
  simp only [j1, j2, j3, j4, j5]
  refine jT 3 (.load 63 (.tmp 12)) (some 13) (.map (some m.bf)) (hy := fun o ho wX hX => by have hcell := hX.1; unfold execOp; simp only [ho]; go_simp) hHeld ?_
  simp only [j1, j2, j3, j4, j5]
  refine jM 4 (.tmp 0) (some 14) (.pointer (some ⟨m.g, 0, none⟩)) hHeld ?_
  simp only [j1, j2, j3, j4, j5]
  refine jT 5 (.nilCheck (.tmp 14)) (some 15) (.pointer (some ⟨m.g, 0, none⟩)) hHeld ?_
  simp only [j1, j2, j3, j4, j5]
  refine jT 6 (.fieldAddr 67 (.tmp 15) 4) (some 16) (.pointer (some ⟨m.g, 4, none⟩)) hHeld ?_
  simp only [j1, j2, j3, j4, j5]
  refine jT 7 (.load 3 (.tmp 16)) (some 17) (.int .i64 (d.steps : Int)) (hy := fun o ho wX hX => by have hcell := hX.2; unfold execOp; simp only [ho]; go_simp) hHeld ?_
  simp only [j1, j2, j3, j4, j5]
  refine jM 8 (.tmp 1) (some 18) (.int .i64 n) hHeld ?_
  simp only [j1, j2, j3, j4, j5]
  refine jT 9 (.binOp .add 3 (.tmp 17) (.tmp 18) 3) (some 19) (.int .i64 ((d.steps : Int) + n)) hHeld ?_
  simp only [j1, j2, j3, j4, j5]
  refine jW [10] ?_
  refine rUpd 10 (.tmp 13) (.tmp 19) (.const (.bool true)) none w3 (by kernel_rfl) (by kernel_rfl) (by rfl) (by rfl) (by rfl) HRUN.out HS3.out ?_ jN
  simp only [j1, j2, j3, j4, j5]
  refine wpAnyH_done (by kernel_rfl) ?_ _
  clear hHeld
  go_wp2_with fail
  exact bodyPost_end (results_none rfl _ _ _) rfl ⟨rfl, _, HDK.out, HDT.out⟩
 ·have HF : Hid (planF d n = d) := jz (by unfold planF; rw [if_pos]; have := of_decide_eq_false t1; omega)
  go_enter Tryz.func30, Tryz.ntmps30
  go_wp2_with fail
  exact bodyPost_end (results_none rfl _ _ _) rfl ⟨rfl, m, by rw [HF.out]; exact H.out, DT.refl⟩
set_option maxHeartbeats 4000000 in
theorem disk_crashAt (n : Int) (va : Value) (cl : List Int) (w : World) (m : DiskM) (d : DiskD) (h : DK w m d) (hs : Sn w 1 va cl.length (i64s cl)) (hcl : cl.length ≤ 1000000) (hn1 : n ≤ 1000000000) (hr : d.room + 1 ≤ 100000) :
  Calls Tryz.prog 32 #[.pointer (some ⟨m.g, 0, none⟩), .int .i64 n, va] w fun e w' => e = .returned (.tuple #[]) ∧ ∃ m', DK w' m' (planC d n cl) ∧ DT w m w' m' := by
 have H := Lib.hid h
 have hst : d.steps ≤ 100000 := Nat.le_trans h.ok.st h.ok.rm
 have HCN := jz (clone_ints va cl.length _ w.drew hs (i64s_one cl) hcl)
 clear h hs
 rcases Bool.eq_false_or_eq_true (decide (1 ≤ n)) with t1 | t1
 ·have h1 : 1 ≤ n := of_decide_eq_true t1
  have HF : Hid (planC d n cl = { d with cr := fun k => if k = (d.steps : Int) + n then some cl else d.cr k, room := d.room + 1 }) := jz (by unfold planC; rw [if_neg (by omega)])
  have hk : isI64 ((d.steps : Int) + n) := by unfold isI64; omega
  have HPUT : Hid (∀ (v : Value) (w2 : World), Sn w2 1 v cl.length (i64s cl) → (∀ b, v.ownBlock = some b → w.heap.size ≤ b ∧ b < w2.heap.size) → Below w.heap.size w w2 → ∃ w3, (Instr.mapUpdate 64 (.map (some m.bc)) (.int .i64 ((d.steps : Int) + n)) v).run Tryz.prog w2 = .ok () w3 ∧ DK w3 { m with cv := uput m.cv ((d.steps : Int) + n) v } (planC d n cl) ∧ DT w m w3 { m with cv := uput m.cv ((d.steps : Int) + n) v } ∧ w3.cell? ⟨m.g, 6, none⟩ = some (.map (some m.bc)) ∧ w3.cell? ⟨m.g, 4, none⟩ = some (.int .i64 (d.steps : Int))) := jz (fun v w2 hs hvb hb => by
   have H2 := H.out.keep hb
   obtain ⟨w3, e1, e2, e3⟩ := UM.put_run Tryz.underlying64 H2.cr hk v (by unfold maxLen; omega)
   have hg := e3.grown
   have hB3 : ∀ k, k < w2.heap.size → k ≠ m.bc → w3.heap[k]? = w2.heap[k]? := fun k hk hn => hg.block k hk (fun e => hn (Option.some.inj e))
   have hnf : ∀ b, v.ownBlock = some b → b ∉ foot m := fun b e hm => by have h1 := H.out.foot_lt b hm; have h2 := hvb b e; omega
   have hdk := H2.planC hB3 hg.size e2 (cs := cl) (by
    obtain ⟨A, cap, rfl, hc1, hl, hx⟩ := hs
    refine ⟨A, cap, rfl, hc1, hl, fun hp => ?_⟩
    obtain ⟨b, off, rfl, hcell⟩ := hx hp
    exact ⟨b, off, rfl, fun j u hj => (World.cell?_of_block (a := ⟨b, off + j, none⟩) (hB3 b (hvb b rfl).2 (fun e => hnf b rfl (by rw [e]; exact foot_bc m)))).trans (hcell j u hj)⟩) (fun b e => ⟨hnf b e, Nat.lt_of_lt_of_le (hvb b e).2 hg.size⟩) hcl hr
   have hB : Blk w3 m.g 67 (diskC m d) := (hB3 m.g H2.blk.lt (foot_nd H.out.nd).2.2.1).trans H2.blk
   refine ⟨w3, e1, by rw [HF.out]; exact hdk, ⟨rfl, (Fo.of_below hb).trans (G := foot m) ⟨hg.os, hg.tape, hg.output, hg.size, fun k hk hm => hB3 k hk (fun e => hm (by rw [e]; exact foot_bc m))⟩ (fun x hx => .inl hx), fun b hb => .inl hb, fun k x hx => by
    have hx : (if k = (d.steps : Int) + n then some v else m.cv k) = some x := hx
    split at hx
    ·injection hx with hx
     subst hx
     exact .inr (fun b e => (hvb b e).1)
    ·exact .inl hx⟩, hB.cell 6, hB.cell 4⟩)
  have HS0 : Hid (w.drew.cell? ⟨m.g, 6, none⟩ = some (.map (some m.bc)) ∧ w.drew.cell? ⟨m.g, 4, none⟩ = some (.int .i64 (d.steps : Int))) := Lib.hid ⟨H.out.blk.cell 6, H.out.blk.cell 4⟩
  have y1 : IntKind.i64.wrap ((d.steps : Int) + n) = (d.steps : Int) + n := IntWalk.i64_in _ (by omega)
  clear hk
  go_enter Tryz.func32, Tryz.ntmps32
  go_wp2_with fail
  refine held_start 13 (fun wz => wz.cell? ⟨m.g, 6, none⟩ = some (.map (some m.bc)) ∧ wz.cell? ⟨m.g, 4, none⟩ = some (.int .i64 (d.steps : Int))) (by kernel_rfl) (by kernel_rfl) (HS0.out) (fun hHeld => ?_)
  refine jM 0 (.tmp 0) (some 12) (.pointer (some ⟨m.g, 0, none⟩)) hHeld ?_
  simp only [j1, j2, j3, j4, j5]
  refine jT 1 (.nilCheck (.tmp 12)) (some 13) (.pointer (some ⟨m.g, 0, none⟩)) hHeld ?_
  simp only [j1, j2, j3, j4, j5]
  refine jT 2 (.fieldAddr 67 (.tmp 13) 6) (some 14) (.pointer (some ⟨m.g, 6, none⟩)) hHeld ?_
  simp only [j1, j2, j3, j4, j5]
  refine jT 3 (.load 64 (.tmp 14)) (some 15) (.map (some m.bc)) (hy := fun o ho wX hX => by have hcell := hX.1; unfold execOp; simp only [ho]; go_simp) hHeld ?_
  simp only [j1, j2, j3, j4, j5]
  refine jM 4 (.tmp 0) (some 16) (.pointer (some ⟨m.g, 0, none⟩)) hHeld ?_
  simp only [j1, j2, j3, j4, j5]
  refine jT 5 (.nilCheck (.tmp 16)) (some 17) (.pointer (some ⟨m.g, 0, none⟩)) hHeld ?_
  simp only [j1, j2, j3, j4, j5]
  refine jT 6 (.fieldAddr 67 (.tmp 17) 4) (some 18) (.pointer (some ⟨m.g, 4, none⟩)) hHeld ?_
  simp only [j1, j2, j3, j4, j5]
  refine jT 7 (.load 3 (.tmp 18)) (some 19) (.int .i64 (d.steps : Int)) (hy := fun o ho wX hX => by have hcell := hX.2; unfold execOp; simp only [ho]; go_simp) hHeld ?_
  simp only [j1, j2, j3, j4, j5]
  refine jM 8 (.tmp 1) (some 20) (.int .i64 n) hHeld ?_
  simp only [j1, j2, j3, j4, j5]
  refine jT 9 (.binOp .add 3 (.tmp 19) (.tmp 20) 3) (some 21) (.int .i64 ((d.steps : Int) + n)) hHeld ?_
  simp only [j1, j2, j3, j4, j5]
  refine jM 10 (.tmp 2) (some 22) (va) hHeld ?_
  simp only [j1, j2, j3, j4, j5]
  refine jW [11] ?_
  refine jC 11 (.call { callee := .value (.func 58), args := #[.tmp 22], argTypes := #[44] }) (some 23) 58 #[va] ?_ jN
  refine HCN.out.mono ?_
  rintro e w2 ⟨v2, rfl, h2, h3, h4⟩
  have hb2 : Below w.heap.size w w2 := (Below.refl w.heap.size w).drew.trans h4
  obtain ⟨w3, hrun3, hdk3, hdt3, hs3⟩ := HPUT.out v2 w2 h2 h3 hb2
  refine ⟨_, rfl, ⟨Below.cell' hb2 HS0.out.1, Below.cell' hb2 HS0.out.2⟩, fun _ => ?_⟩
  simp only [j1, j2, j3, j4, j5]
  refine jW [12] ?_
  refine rUpd 12 (.tmp 15) (.tmp 21) (.tmp 23) none w3 (by kernel_rfl) (by kernel_rfl) (by rfl) (by rfl) (by rfl) hrun3 hs3 ?_ jN
  simp only [j1, j2, j3, j4, j5]
  refine wpAnyH_done (by kernel_rfl) ?_ _
  have HDK := Lib.hid hdk3
  have HDT := Lib.hid hdt3
  clear h2 h3 h4 hb2 hrun3 hdk3 hdt3 hs3
  clear hHeld
  go_wp2_with fail
  exact bodyPost_end (results_none rfl _ _ _) rfl ⟨rfl, _, HDK.out, HDT.out⟩
 ·have HF : Hid (planC d n cl = d) := jz (by unfold planC; rw [if_pos]; have := of_decide_eq_false t1; omega)
  go_enter Tryz.func32, Tryz.ntmps32
  go_wp2_with fail
  exact bodyPost_end (results_none rfl _ _ _) rfl ⟨rfl, m, by rw [HF.out]; exact H.out, DT.refl⟩
end Go.Proofs.YtillkpjflcgkeaaGreat
namespace Go.Proofs.YtillkpjflcgkeaaGreat
open Go.RowKit
def baseVal (c : Int) : Option Int → Value
 | none => .iface 90 (.int .i64 c)
 | some at_ => .iface 150 (.agg #[.int .i64 c, .int .i64 at_])
theorem ta_code_code (p : Value) (w : World) : (Instr.typeAssert (.iface 90 p) 53 90 true).run Tryz.prog w = .ok (.tuple #[p, .bool true]) w := by kernel_rfl
theorem ta_code_fault (p : Value) (w : World) : (Instr.typeAssert (.iface 150 p) 53 90 true).run Tryz.prog w = .ok (.tuple #[.int .i64 0, .bool false]) w := by kernel_rfl
theorem ta_unwrap_fault (p : Value) (w : World) : (Instr.typeAssert (.iface 150 p) 53 168 true).run Tryz.prog w = .ok (.tuple #[.iface 150 p, .bool true]) w := by kernel_rfl
theorem least_parts (n : String) (f : String → Bool) (g : String → String) : ∃ m, (Instr.least ([n].partition f).2 <|> Instr.least (([n].partition f).1.map g)) = some m := by
 cases hf : f n <;> simp [List.partition, List.partition.loop, hf, Instr.least]
theorem missing_one (want : Array (String × TypeId)) (got : Array Method) (n : String) (h : (want.toList.filter fun (name, sig) => !got.any fun m => m.name == name && m.sig == sig).map (·.1) = [n]) : ∃ m, Instr.missingMethod want got = some m := by
 unfold Instr.missingMethod
 simp only [h]
 exact least_parts n _ _
theorem run_typeAssert_missing {P : Program} (w : World) (t xt a : TypeId) (v z : Value) (want : Array (String × TypeId)) (i : TypeInfo) (n : String) (hu : P.underlying a = some (.interface want)) (hi : P.info? t = some i)
  (h : (want.toList.filter fun (name, sig) => !i.methods.any fun m => m.name == name && m.sig == sig).map (·.1) = [n]) (hz : (zeroValue a).run P w = .ok z w) :
  (Instr.typeAssert (.iface t v) xt a true).run P w = .ok (.tuple #[z, .bool false]) w := by
 obtain ⟨m, hm⟩ := missing_one want i.methods n h
 simp only [Instr.typeAssert]
 simp [run_underlying hu, typeInfo, hi, hm, hz]
theorem ta_unwrap_code (p : Value) (w : World) : (Instr.typeAssert (.iface 90 p) 53 168 true).run Tryz.prog w = .ok (.tuple #[.nilIface, .bool false]) w := by
 have h : (Tryz.prog.info? 90).map (fun i => ((#[("Unwrap", 91)] : Array (String × TypeId)).toList.filter fun (name, sig) => !i.methods.any fun m => m.name == name && m.sig == sig).map (·.1)) = some ["Unwrap"] := by kernel_rfl
 obtain ⟨i, hi, hn⟩ := Option.map_eq_some_iff.1 h
 exact run_typeAssert_missing w 90 53 168 p .nilIface #[("Unwrap", 91)] i "Unwrap" (by kernel_rfl) hi hn (by kernel_rfl)
set_option maxHeartbeats 400000 in
theorem code_visit_code (c : Int) (b : Nat) (w : World) (x : Value) (hx : w.cell? ⟨b, 0, none⟩ = some x) (hf : w.frozen? ⟨b, 0, none⟩ = false) :
  Calls Tryz.prog 68 #[.iface 90 (.int .i64 c), .pointer (some ⟨b, 0, none⟩)] w fun e w' => e = .returned (.bool true) ∧ w.setCell ⟨b, 0, none⟩ (.int .i64 c) = w' := by
 have h1 := ta_code_code
 go_enter Tryz.func68, Tryz.ntmps68
 go_wp2
 go_ret
 exact ⟨rfl, rfl⟩
set_option maxHeartbeats 400000 in
theorem code_visit_fault (p : Value) (b : Nat) (w : World) :
  Calls Tryz.prog 68 #[.iface 150 p, .pointer (some ⟨b, 0, none⟩)] w fun e w' => e = .returned (.bool false) ∧ w = w' := by
 have h1 := ta_code_fault
 go_enter Tryz.func68, Tryz.ntmps68
 go_wp2
 go_ret
 exact ⟨rfl, rfl⟩
theorem m_unwrap_fault (p : Value) (w : World) : (method 317 150 p "Unwrap").run Tryz.prog w = .ok (134, p) w := by kernel_rfl
set_option maxHeartbeats 400000 in
theorem unwrap_fault (c a : Int) (w : World) :
  Calls Tryz.prog 134 #[.agg #[.int .i64 c, .int .i64 a]] w fun e w' => e = .returned (.iface 90 (.int .i64 c)) ∧ Below w.heap.size w w' := by
 go_enter Tryz.func134, Tryz.ntmps134
 go_wp2
 go_ret
 exact ⟨rfl, (Below.refl _ _).alloc (Nat.le_refl _) _⟩
theorem search_idle (w : World) :
  CallsD Tryz.prog 87 #[] .returning w fun e u' w' => e = .returned (.tuple #[]) ∧ u' = .returning ∧ w = w' := by
 refine callsD_of_wpS Tryz.func87 rfl fun c₀ cs hu => ?_
 apply wpS_region
 cases c₀
 simp_all [wpOpsS, go_sem, recoverD, Tryz.ntmps87, bodyPostS, results, Tryz.results87]
set_option maxHeartbeats 400000 in
theorem search_code (W w : World) (c : Int) (o : Option Int) (hb : Below W.heap.size W w) (x : Value)
  (hx : w.cell? ⟨W.heap.size, 0, none⟩ = some x) (hf : w.frozen? ⟨W.heap.size, 0, none⟩ = false) :
  Calls Tryz.prog 67 #[baseVal c o, .func (.func 68) #[] #[.pointer (some ⟨W.heap.size, 0, none⟩)]] w fun e w' => e = .returned (.tuple #[]) ∧ Below W.heap.size W w' ∧ w'.cell? ⟨W.heap.size, 0, none⟩ = some (.int .i64 c) := by
 go_enter_defers Tryz.func67, Tryz.ntmps67
 go_wp2_with fail
 go_loopw [0, 6] (fun e i wr => ∃ (k : Nat) (u : Value), k ≤ 1 ∧ i = .int .i64 k ∧ Below W.heap.size W wr ∧ wr.cell? ⟨W.heap.size, 0, none⟩ = some u ∧ wr.frozen? ⟨W.heap.size, 0, none⟩ = false ∧ ((k = 0 ∧ e = baseVal c o) ∨ e = .iface 90 (.int .i64 c))) (fun _ i _ => 65536 - (intOf i).toNat)
 case atStart => exact ⟨0, x, by omega, rfl, hb, hx, hf, .inl ⟨rfl, rfl⟩⟩
 case round =>
  obtain ⟨k, u, hk, rfl, hbr, hxr, hfr, he⟩ := hrel
  have h2 := ta_unwrap_fault
  have h3 := ta_unwrap_code
  have h5 := m_unwrap_fault
  have hlt : decide ((k : Int) < 65536) = true := by simp; omega
  rcases (show (_ = Value.iface 90 (.int .i64 c)) ∨ (∃ a, k = 0 ∧ _ = Value.iface 150 (.agg #[.int .i64 c, .int .i64 a])) from by
   rcases he with ⟨h0, he⟩ | he
   ·cases o with
    | none => exact .inl he
    | some a => exact .inr ⟨a, h0, he⟩
   ·exact .inl he) with rfl | ⟨a, h0, rfl⟩
  ·clear he
   go_wp2_with fail
   refine (code_visit_code c W.heap.size wr u hxr hfr).mono ?_
   rintro e w' ⟨rfl, rfl⟩
   go_wp2_with fail
   refine leaves_cons (f := 87) (args := #[]) (by simp) (by simp [go_sem]) ?_
   refine (search_idle _).mono ?_
   rintro e u' w'' ⟨rfl, rfl, rfl⟩
   refine ⟨_, results_none rfl _ _ _, rfl, hbr.setCell (Nat.le_refl _) _, ?_⟩
   simp [go_sem, hxr]
  ·clear he
   have hk1 : k + 1 ≤ 1 := by omega
   clear h0
   go_wp2_with fail
   refine (code_visit_fault _ W.heap.size wr).mono ?_
   rintro e w' ⟨rfl, rfl⟩
   go_wp2_with fail
   refine (unwrap_fault c a wr).mono ?_
   rintro e w1 ⟨rfl, hb1⟩
   have hlt2 := cell_lt hxr
   go_wp2_with fail
   exact ⟨⟨k + 1, u, hk1, by go_num, hbr.trans (hb1.mono hbr.size), Below.cell' hb1 hxr, (hb1.frozen hlt2).trans hfr, .inr rfl⟩, by simp [intOf]; omega⟩
theorem make_fn (fn : Fn) (first cap : Array Value) (w : World) : (Instr.makeFunc fn first cap).run Tryz.prog w = .ok (.func fn first cap) w := rfl
set_option maxHeartbeats 400000 in
theorem code_base (w : World) (c : Int) (o : Option Int) :
  Calls Tryz.prog 46 #[baseVal c o] w fun e w' => e = .returned (.int .i64 c) ∧ Below w.heap.size w w' := by
 have hmf := make_fn
 have HS := fun (w1 : World) (hb : Below w.heap.size w w1) x hx hf => search_code w w1 c o hb x hx hf
 obtain ⟨v, hv⟩ : ∃ v, v = baseVal c o := ⟨_, rfl⟩
 rw [← hv] at HS ⊢
 clear hv
 go_enter Tryz.func46, Tryz.ntmps46
 go_wp2_with fail
 refine (HS (w.alloc (.cells #[.int .i64 0] 90)) ((Below.refl _ _).alloc (Nat.le_refl _) _) (.int .i64 0) (by simp [go_sem]) (by simp [go_sem])).mono ?_
 rintro e w' ⟨rfl, hb, hc⟩
 clear HS
 go_wp2
 go_ret
 exact ⟨rfl, hb⟩
set_option maxHeartbeats 400000 in
theorem search_nil (f : Value) (w : World) :
  Calls Tryz.prog 67 #[.nilIface, f] w fun e w' => e = .returned (.tuple #[]) ∧ w = w' := by
 go_enter_defers Tryz.func67, Tryz.ntmps67
 go_wp2_with fail
 go_loop [0, 6] (fun e i => e = .nilIface ∧ i = .int .i64 0) (fun _ _ => 0)
 case atStart => exact ⟨rfl, rfl⟩
 case round =>
  obtain ⟨rfl, rfl⟩ := hrel
  go_wp2_with fail
  refine leaves_cons (f := 87) (args := #[]) (by simp) (by simp [go_sem]) ?_
  refine (search_idle _).mono ?_
  rintro e u' w'' ⟨rfl, rfl, rfl⟩
  exact ⟨_, results_none rfl _ _ _, rfl, rfl⟩
set_option maxHeartbeats 400000 in
theorem code_nil (w : World) :
  Calls Tryz.prog 46 #[.nilIface] w fun e w' => e = .returned (.int .i64 0) ∧ Below w.heap.size w w' := by
 have hmf := make_fn
 go_enter Tryz.func46, Tryz.ntmps46
 go_wp2_with (go_at_call 67; refine (search_nil _ _).mono ?_; rintro e w' ⟨rfl, rfl⟩)
 go_ret
 exact ⟨rfl, (Below.refl _ _).alloc (Nat.le_refl _) _⟩
end Go.Proofs.YtillkpjflcgkeaaGreat
namespace Go.Proofs.YtillkpjflcgkeaaGreat
open Go.RowKit
attribute [local irreducible] wpQuiet wpAnyH
def room (z : Int) : Int := if z < 1 then 0 else z - 1
theorem slot_room (f z : Int) (w : World) (hz : isI64 z) :
  Calls Tryz.prog 35 #[.agg #[.int .i64 f, .int .i64 z]] w fun e w' => e = .returned (.int .i64 (room z)) ∧ Below w.heap.size w w' := by
 have hbA : Below w.heap.size w (w.alloc (.cells #[.int .i64 f, .int .i64 z] 85)) := (Below.refl _ w).alloc (Nat.le_refl _) _
 have hc := (Blk.new w 85 #[.int .i64 f, .int .i64 z]).cell 1
 simp only [List.getElem?_toArray, List.getElem?_cons_succ, List.getElem?_cons_zero] at hc
 have h1 : -9223372036854775808 ≤ z := hz.1
 have h2 : z ≤ 9223372036854775807 := hz.2
 rcases Bool.eq_false_or_eq_true (decide (z < 1)) with t1 | t1
 ·go_enter Tryz.func35, Tryz.ntmps35
  go_wp2_with fail
  go_ret
  exact ⟨by unfold room; rw [if_pos (of_decide_eq_true t1)]; rfl, hbA⟩
 ·have h3 : 1 ≤ z := by have := of_decide_eq_false t1; omega
  go_enter Tryz.func35, Tryz.ntmps35
  go_wp2_with fail
  go_ret
  exact ⟨by unfold room; rw [if_neg (by omega)]; rfl, hbA⟩
def rightE (q : List Int × Int) : Bool := decide (0 ≤ q.2) && decide (q.2 ≤ 4611686018427387904)
theorem ref_right (q : List Int × Int) (w : World) (hq : EntOk q) :
  Calls Tryz.prog 69 #[.agg (entP q).toArray] w fun e w' => e = .returned (.bool (rightE q)) ∧ Below w.heap.size w w' := by
 have hbA : Below w.heap.size w (w.alloc (.cells (entP q).toArray 43)) := (Below.refl _ w).alloc (Nat.le_refl _) _
 have hB := Blk.new w 43 (entP q).toArray
 have hcell : (w.alloc (.cells (entP q).toArray 43)).cell? ⟨w.heap.size, 32, none⟩ = some (.int .i64 q.2) := by
  rw [hB.cell]
  have h32 : (u8s q.1).length = 32 := by rw [u8s_length, hq.dig.len]
  simp only [List.getElem?_toArray, entP, entC]
  rw [List.getElem?_append_right (by omega), h32]
  rfl
 have hlq := entP_length q hq
 clear hB hq
 rcases Bool.eq_false_or_eq_true (decide (0 ≤ q.2)) with t1 | t1 <;> rcases Bool.eq_false_or_eq_true (decide (q.2 ≤ 4611686018427387904)) with t2 | t2
 all_goals
  go_enter Tryz.func69, Tryz.ntmps69
  go_wp2_with fail
  go_ret
  exact ⟨by unfold rightE; rw [t1, t2]; rfl, hbA⟩
abbrev Ans := Option (Int × Option Int)
def valE : Ans → Value
 | none => .nilIface
 | some (c, o) => baseVal c o
def codeA : Ans → Int
 | none => 0
 | some (c, _) => c
def writeA (d : DiskD) (a : Int) : Ans :=
 if d.down then some (12, none) else if outS d = 2 then some (12, none) else if outS d = 1 then some (11, none) else if hasB d a then none else some (15, some a)
def syncA (d : DiskD) : Ans := if d.down then some (12, none) else if outS d = 2 then some (12, none) else if outS d = 1 then some (11, none) else none
theorem writeE_val (d : DiskD) (a : Int) : writeE d a = valE (writeA d a) := by
 unfold writeE writeA
 split; · rfl
 split; · rfl
 split; · rfl
 split <;> rfl
theorem syncE_val (d : DiskD) : syncE d = valE (syncA d) := by
 unfold syncE syncA
 split; · rfl
 split; · rfl
 split <;> rfl
theorem valE_form (x : Int × Option Int) : ∃ t u, valE (some x) = .iface t u := by
 obtain ⟨c, o⟩ := x
 cases o <;> exact ⟨_, _, rfl⟩
theorem code_val (o : Ans) (w : World) : Calls Tryz.prog 46 #[valE o] w fun e w' => e = .returned (.int .i64 (codeA o)) ∧ Below w.heap.size w w' := by
 cases o with
 | none => exact code_nil w
 | some x => obtain ⟨c, p⟩ := x; exact code_base w c p
def entRec (g : Nat) (q : List Int × Int) : List Int := rec g (q.1 ++ beB 8 q.2.toNat)
theorem frame_entry (g : Nat) (q : List Int × Int) (w : World) (hq : EntOk q) (hg : g < 4294967296) :
  Calls Tryz.prog 66 #[.int .u32 g, .agg (entP q).toArray] w fun e w' => e = .returned (.tuple #[.agg (u8s (if rightE q then entRec g q else zsec)).toArray, .bool (rightE q)]) ∧ Below w.heap.size w w' := by
 cases hr : rightE q with
 | true =>
  have h2 : 0 ≤ q.2 ∧ q.2 ≤ 4611686018427387904 := by unfold rightE at hr; simpa using hr
  have h := frame_entry_ok g q.2.toNat q w hq (by omega) (by omega) hg
  rw [if_pos rfl]
  exact h
 | false =>
  rw [if_neg (by simp)]
  have HZ := Lib.hid z64_zsec
  have HZ1 : Hid (z64.all (·.oneCell') = true) := jz (by rw [z64_zsec]; exact u8s_one _)
  have hzl : z64.size = 64 := z64_size
  have hB0 : Blk (w.alloc (.cells (entP q).toArray 43)) w.heap.size 43 (entP q).toArray := Blk.new _ _ _
  have hc : (w.alloc (.cells (entP q).toArray 43)).cell? ⟨w.heap.size, 32, none⟩ = some (.int .i64 q.2) := by
   rw [hB0.cell 32]
   have hl : (u8s q.1).length = 32 := by rw [u8s_length, hq.dig.len]
   show (entC q.1 q.2).toArray[32]? = _
   simp [entC, hl]
  obtain ⟨E, hE⟩ : ∃ E, E = (entP q).toArray := ⟨_, rfl⟩
  rw [← hE] at hc ⊢
  clear hE hB0
  have hc2 : ((w.alloc (.cells E 43)).alloc (.cells z64 72)).cell? ⟨w.heap.size, 32, none⟩ = some (.int .i64 q.2) := Below.cell' ((Below.refl _ _).alloc (Nat.le_refl _) _) hc
  have HB1 : Hid (Blk ((w.alloc (.cells E 43)).alloc (.cells z64 72)) (w.heap.size + 1) 72 z64) := jz (Blk.newAt _ _ _ _ (by simp))
  have HBW : Hid (Below w.heap.size w ((w.alloc (.cells E 43)).alloc (.cells z64 72))) := jz (((Below.refl _ w).alloc (Nat.le_refl _) _).alloc (by simp) _)
  have HSZ : Hid ((w.alloc (.cells E 43)).heap.size = w.heap.size + 1) := jz (by simp)
  clear hc
  obtain ⟨x, hx⟩ : ∃ x, x = q.2 := ⟨_, rfl⟩
  rw [← hx] at hc2
  have hbad : x < 0 ∨ 4611686018427387904 < x := by
   unfold rightE at hr
   rw [← hx] at hr
   by_cases h : x < 0
   ·exact .inl h
   ·right
    have h0 : 0 ≤ x := by omega
    simp [h0] at hr
    omega
  clear hx hr
  rcases Bool.eq_false_or_eq_true (decide (x < 0)) with t1 | t1
  ·go_enter Tryz.func66, Tryz.ntmps66
   go_wp2_with (first
    | (refine al 72 z64 rfl rfl zero64 ?_)
    | (refine bld 72 #[] rfl rfl rfl built64 ?_)
    | (refine stBlk 72 (.tmp 4) (.tmp 14) rfl rfl (by first | rfl | (rw [HSZ.out]; rfl) | (simp only [World.size_alloc]; rfl)) rfl HB1.out (by rw [hzl]; kernel_rfl) rfl HZ1.out ?_; intro w3 hB3 hb3 _ _; have HB3 := Lib.hid hB3; have HE3 := Lib.hid hb3; clear hB3 hb3))
   have hr : w3.rangeAt (w.heap.size + 1) 0 (u8s zsec) := by have h := HB3.out.range; rw [HZ.out, List.toList_toArray] at h; exact h
   exact bodyPost_ret (results_cellR_tmp rfl _ (by first | rfl | (simp only [World.size_alloc]; rfl)) hr Tryz.underlying72 rfl (by rw [sec_length zsec_sec]; kernel_rfl)) rfl ⟨rfl, HBW.out.trans (HE3.out.mono (by omega))⟩
  ·have t2 : decide ((4611686018427387904 : Int) < x) = true := by have := of_decide_eq_false t1; simp; omega
   go_enter Tryz.func66, Tryz.ntmps66
   go_wp2_with (first
    | (refine al 72 z64 rfl rfl zero64 ?_)
    | (refine bld 72 #[] rfl rfl rfl built64 ?_)
    | (refine stBlk 72 (.tmp 4) (.tmp 14) rfl rfl (by first | rfl | (rw [HSZ.out]; rfl) | (simp only [World.size_alloc]; rfl)) rfl HB1.out (by rw [hzl]; kernel_rfl) rfl HZ1.out ?_; intro w3 hB3 hb3 _ _; have HB3 := Lib.hid hB3; have HE3 := Lib.hid hb3; clear hB3 hb3))
   have hr : w3.rangeAt (w.heap.size + 1) 0 (u8s zsec) := by have h := HB3.out.range; rw [HZ.out, List.toList_toArray] at h; exact h
   exact bodyPost_ret (results_cellR_tmp rfl _ (by first | rfl | (simp only [World.size_alloc]; rfl)) hr Tryz.underlying72 rfl (by rw [sec_length zsec_sec]; kernel_rfl)) rfl ⟨rfl, HBW.out.trans (HE3.out.mono (by omega))⟩
theorem sliced_own {A : Option Addr} {i j m s k c : Nat} : ∀ b, (sliced A i j m s).ownBlock = some b → (Value.slice A k c).ownBlock = some b := by
 intro b h
 unfold Go.sliced at h
 cases A with
 | none => split at h <;> simp [Value.ownBlock] at h
 | some a =>
  obtain ⟨p, o, z⟩ := a
  split at h
  ·exact h
  ·simp only [Value.ownBlock, Option.map_some, Addr.add] at h
   split at h <;> exact h
set_option maxHeartbeats 1000000 in
theorem clone_bytesF (va : Value) (n : Nat) (xs : List Value) (w : World) (hs : Sn w 1 va n xs) (h1 : ∀ u ∈ xs, u.oneCell' = true) (hn : n ≤ 1000000) :
  Calls Tryz.prog 96 #[va] w fun e w' => ∃ v, e = .returned v ∧ Sn w' 1 v n xs ∧ (∀ b, v.ownBlock = some b → w.heap.size ≤ b) ∧ Below w.heap.size w w' := by
 obtain ⟨A, cap, rfl, hcap, hl, hx⟩ := id hs
 have HS := Lib.hid hs
 have HX := Lib.hid hx
 clear hx
 cases A with
 | none =>
  have heq : ∀ w : World, (binOp .eql 74 (.slice none n cap) (.slice none 0 0)).run Tryz.prog w = .ok (.bool true) w := fun _ => rfl
  go_enter Tryz.func96, Tryz.ntmps96
  go_wp2_with fail
  go_ret
  have hn0 : n = 0 := by
   rcases Nat.eq_zero_or_pos n with h | h
   ·exact h
   ·obtain ⟨b, off, e, _⟩ := HX.out h
    cases e
  subst hn0
  exact ⟨_, rfl, ⟨none, 0, rfl, Nat.le_refl _, hl, fun h => absurd h (by omega)⟩, (fun b e => by cases e), Below.refl _ _⟩
 | some a =>
  have heq : ∀ w : World, (binOp .eql 74 (.slice (some a) n cap) (.slice none 0 0)).run Tryz.prog w = .ok (.bool false) w := fun _ => rfl
  have hown : (w.alloc (.cells #[] 5)).ownsRow w.heap.size 5 1 (.slice (some ⟨w.heap.size, 0, none⟩) 0 0) 0 [] := own_new w #[] 5 1 0 w.heap.size w.heap.size (Nat.le_refl _) rfl (by unfold maxLen; omega) rfl
  go_enter Tryz.func96, Tryz.ntmps96
  clear hs
  go_wp2_with (at_builtin; refine app tByt (.tmp 5) (.tmp 6) rfl rfl rfl hown rfl (HS.out.alloc _) h1 (by unfold maxLen; omega) (by omega) (by simp) ?_; intro v' w3 hown3 hgrow _)
  go_ret
  have hb : Below w.heap.size w w3 := ((Below.refl _ w).alloc (Nat.le_refl _) _).grown hgrow (by simp) (fun g hg => by have := (hown.lt g hg).1; omega)
  have hlt := hown3.lt
  have := Sn.own hown3
  rw [Nat.zero_add, List.nil_append] at this
  exact ⟨_, rfl, this, fun b e => (hlt b e).1, hb⟩
set_option maxHeartbeats 1000000 in
theorem wire_newF (va : Value) (xs : List Int) (w : World) (hs : Sn w 1 va xs.length (u8s xs)) (hn : xs.length ≤ 1000000) :
  Calls Tryz.prog 79 #[va] w fun e w' => ∃ r v, e = .returned (.pointer (some ⟨r, 0, none⟩)) ∧ RD w' r v xs false ∧ (∀ b, v.ownBlock = some b → w.heap.size ≤ b) ∧ w.heap.size ≤ r ∧ Below w.heap.size w w' := by
 have HS := Lib.hid hs
 clear hs
 go_enter Tryz.func79, Tryz.ntmps79
 go_wp2_with fail
 refine (clone_bytesF va xs.length (u8s xs) w HS.out (u8s_mem xs) hn).mono ?_
 rintro e w1 ⟨v, rfl, hs1, hfr, hb1⟩
 obtain ⟨A, cap, rfl, hcap, hl, _⟩ := id hs1
 have HS1 := Lib.hid hs1
 have hsz := hb1.size
 have HFR := Lib.hid hfr
 clear hs1 hfr
 go_wp2_with fail
 go_ret
 exact ⟨_, _, rfl, ⟨Blk.new _ _ _, HS1.out.alloc _⟩, HFR.out, hsz, hb1.alloc hsz _⟩
set_option maxHeartbeats 1000000 in
theorem rd_nextF (r : Nat) (v : Value) (xs : List Int) (bad : Bool) (n : Nat) (w : World) (h : RD w r v xs bad) (hl : xs.length ≤ 1000000) :
    Calls Tryz.prog 110 #[.pointer (some ⟨r, 0, none⟩), .int .u64 n] w fun e w' => Off r w w' ∧
      ((bad = false ∧ n ≤ xs.length ∧ ∃ x v', e = .returned (.tuple #[x, .bool true]) ∧ Sn w' 1 x n (u8s (xs.take n)) ∧ RD w' r v' (xs.drop n) false ∧ ∀ b, v'.ownBlock = some b → v.ownBlock = some b) ∨
       ((bad = true ∨ xs.length < n) ∧ e = .returned (.tuple #[.slice none 0 0, .bool false]) ∧ RD w' r (.slice none 0 0) [] true)) := by
  obtain ⟨hB, hs⟩ := h
  obtain ⟨A, cap, rfl, hcap, hln, _⟩ := id hs
  have HS := Lib.hid hs
  have HB := Lib.hid hB
  have h0 := hB.cell 0
  have h1 := hB.cell 1
  have f0 := hB.frozen 0
  simp only [List.getElem?_toArray, List.getElem?_cons_zero, List.getElem?_cons_succ] at h0 h1
  have hcase : bad = true ∨ bad = false ∧ decide (xs.length < n) = true ∨ bad = false ∧ decide (xs.length < n) = false := by
    cases bad <;> cases decide (xs.length < n) <;> simp
  clear hB hs
  rcases hcase with rfl | ⟨rfl, t1⟩ | ⟨rfl, t1⟩
  · go_enter Tryz.func110, Tryz.ntmps110
    go_wp2_with fail
    refine (rd_fail r _ true w HB.out).mono ?_
    rintro e w1 ⟨rfl, hR, ho⟩
    go_wp2_with fail
    go_ret2
    exact ⟨ho, .inr ⟨.inl trivial, rfl, hR⟩⟩
  · go_enter Tryz.func110, Tryz.ntmps110
    go_wp2_with fail
    refine (rd_fail r _ false w HB.out).mono ?_
    rintro e w1 ⟨rfl, hR, ho⟩
    go_wp2_with fail
    go_ret2
    exact ⟨ho, .inr ⟨.inr (by have := of_decide_eq_true t1; omega), rfl, hR⟩⟩
  · have hn : n ≤ xs.length := by have := of_decide_eq_false t1; omega
    have hi1 : (n : Int) ≤ cap := by omega
    have hi2 : (n : Int) ≤ xs.length := by omega
    have hi0 : (0 : Int) ≤ n := by omega
    have hue := Tryz.underlying74
    go_enter Tryz.func110, Tryz.ntmps110
    have HR2 : Hid (Sn w 1 (sliced A 0 n n 1) n (u8s (xs.take n))) := jz (by
      have := HS.out.sliced 0 n n (by omega) hn (Nat.le_refl _)
      rw [u8s_take]
      simpa using this)
    have HR3 : Hid (Sn w 1 (sliced A n xs.length cap 1) (xs.drop n).length (u8s (xs.drop n))) := jz (by
      have := HS.out.sliced n xs.length cap hn (Nat.le_refl _) hcap
      rw [u8s_drop, List.length_drop]
      have e : (u8s xs).take (xs.length * 1) = u8s xs := List.take_of_length_le (by rw [u8s_length]; omega)
      rw [e] at this
      simpa using this)
    have hB3 := jz (HB.out.set_ 0 (sliced A n xs.length cap 1))
    have ho : Off r w (w.setCell ⟨r, 0, none⟩ (sliced A n xs.length cap 1)) := (Off.refl r w).set 0 _
    have HO := Lib.hid ho
    clear ho
    by_cases hcn : cap = n
    all_goals
      go_wp2_with fail
      go_ret2
      have hx2 := HR2.out.offB HB.out rfl HO.out
      have hx3 := HR3.out.offB HB.out rfl HO.out
      have e2 : sliced A 0 n n 1 = .slice A n n := by
        unfold Go.sliced
        cases A with
        | none => simp
        | some a => obtain ⟨b, o, s⟩ := a; simp [Addr.add]
      have hb3 := hB3.out
      rw [e2] at hx2
      refine ⟨?_, .inl ⟨trivial, hn, _, sliced A n xs.length cap 1, rfl, ?_, ?_⟩⟩
    · have e3 : sliced A n xs.length cap 1 = .slice A (xs.length - n) 0 := by simp [Go.sliced, hcn]
      rw [← e3]; exact HO.out
    · have e3 : sliced A n xs.length cap 1 = .slice A (xs.length - n) 0 := by simp [Go.sliced, hcn]
      rw [e3] at hx2; exact hx2
    · have e3 : sliced A n xs.length cap 1 = .slice A (xs.length - n) 0 := by simp [Go.sliced, hcn]
      rw [← e3]; exact ⟨⟨hb3, hx3⟩, sliced_own⟩
    · have e3 : sliced A n xs.length cap 1 = .slice (A.map (·.add n)) (xs.length - n) (cap - n) := by simp [Go.sliced, hcn]
      rw [← e3]; exact HO.out
    · have e3 : sliced A n xs.length cap 1 = .slice (A.map (·.add n)) (xs.length - n) (cap - n) := by simp [Go.sliced, hcn]
      rw [e3] at hx2; exact hx2
    · have e3 : sliced A n xs.length cap 1 = .slice (A.map (·.add n)) (xs.length - n) (cap - n) := by simp [Go.sliced, hcn]
      rw [← e3]; exact ⟨⟨hb3, hx3⟩, sliced_own⟩
set_option maxHeartbeats 1000000 in
theorem rd_TakeF (r : Nat) (v : Value) (xs : List Int) (bad : Bool) (n : Nat) (w : World) (h : RD w r v xs bad) (hl : xs.length ≤ 1000000) (hn : n ≤ 1000000) :
    Calls Tryz.prog 101 #[.pointer (some ⟨r, 0, none⟩), .int .i64 n] w fun e w' => Off r w w' ∧
      ((bad = false ∧ n ≤ xs.length ∧ ∃ x v', e = .returned x ∧ Sn w' 1 x n (u8s (xs.take n)) ∧ RD w' r v' (xs.drop n) false ∧ ∀ b, v'.ownBlock = some b → v.ownBlock = some b) ∨
       ((bad = true ∨ xs.length < n) ∧ e = .returned (.slice none 0 0) ∧ RD w' r (.slice none 0 0) [] true)) := by
  go_enter Tryz.func101, Tryz.ntmps101
  have HR := Lib.hid h
  have hi1 : (0 : Int) ≤ n := by omega
  have hi8 : (n : Int) ≤ 1000000 := by omega
  clear h
  go_wp2_with fail
  refine (rd_nextF r v xs bad n w HR.out hl).mono ?_
  rintro e w1 ⟨ho, ⟨rfl, hkl, x, v', rfl, hsx, hR, hob⟩ | ⟨hbad, rfl, hR⟩⟩
  · have HO := Lib.hid ho
    have HRR := Lib.hid hR
    have HSX := Lib.hid hsx
    have HK := Lib.hid hkl
    have HOB := Lib.hid hob
    clear ho hR hsx hkl hob
    go_wp2_with fail
    refine (clone_bytes x n (u8s (xs.take n)) w1 HSX.out (u8s_mem _) hn).mono ?_
    rintro e w2 ⟨y, rfl, hsy, hb2⟩
    go_wp2_with fail
    go_ret
    exact ⟨HO.out.trans (Off.of_below hb2), .inl ⟨HK.out, y, rfl, hsy, v', ⟨HRR.out.1.keep hb2, HRR.out.2.below hb2⟩, HOB.out⟩⟩
  · have HO := Lib.hid ho
    have HRR := Lib.hid hR
    have HBD := Lib.hid hbad
    clear ho hR hbad
    go_wp2_with fail
    go_ret
    exact ⟨HO.out, .inr ⟨HBD.out, rfl, HRR.out⟩⟩
end Go.Proofs.YtillkpjflcgkeaaGreat
namespace Go.Proofs.YtillkpjflcgkeaaGreat
theorem build_ent (d : List Int) (t : Int) (hd : d.length = 32) (Z : Array Value) (hz : Z.size = 33) : ((u8s d).zipIdx.foldl (fun (cs : Array Value) (x : Value × Nat) => cs.setIfInBounds x.2 x.1) Z).setIfInBounds 32 (.int .i64 t) = (entC d t).toArray := by
 have h32 : (u8s d).length = 32 := by simp [u8s, hd]
 have hsz : ((u8s d).zipIdx.foldl (fun (cs : Array Value) (x : Value × Nat) => cs.setIfInBounds x.2 x.1) Z).size = 33 := by
  have key : ∀ (l : List (Value × Nat)) (cs : Array Value), (l.foldl (fun (cs : Array Value) (x : Value × Nat) => cs.setIfInBounds x.2 x.1) cs).size = cs.size := by
   intro l
   induction l with
   | nil => intro cs; rfl
   | cons x l ih => intro cs; rw [List.foldl_cons, ih, Array.size_setIfInBounds]
  rw [key]; exact hz
 apply Array.ext_getElem?
 intro i
 rw [Array.getElem?_setIfInBounds, set_many, hsz, hz, h32, show (entC d t).toArray[i]? = (u8s d ++ [.int .i64 t])[i]? by simp [entC]]
 by_cases h1 : 32 = i
 ·subst h1
  rw [if_pos rfl, if_pos (by omega), List.getElem?_append_right (by omega), h32]
  rfl
 ·rw [if_neg h1]
  by_cases h2 : i < 32
  ·rw [if_pos (by omega), List.getElem?_append_left (by omega), Nat.sub_zero]
  ·rw [if_neg (by omega), List.getElem?_append_right (by omega), h32]
   rw [Array.getElem?_eq_none (by rw [hz]; omega), List.getElem?_eq_none (by simp; omega)]
end Go.Proofs.YtillkpjflcgkeaaGreat
