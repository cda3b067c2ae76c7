/- The index: Drop. -/
import Derived.Test.YtlhehnghplchfaaIdx2
namespace Go.Proofs.Ytlhehnghplchfaa
open Go.RowKit

def liveF (f : List Int → Option Int) (now : Int) : List Int → Option Int := fun d => match f d with | some t => if t < now then none else some t | none => none
theorem DM.zero {w : World} {b n c : Nat} {f : List Int → Option Int} (h : DM w b n f c) (hz : ∀ d, DigOk d → f d = none) : c = 0 := by
  obtain ⟨D, hown, hf⟩ := h
  obtain ⟨w', hrun, r1, r2, r3⟩ := hown.range keyed Try.underlying53
  rcases r1.next keyed 0 with ⟨h0, _⟩ | ⟨key, v, kl, y, w'', cnt', hkey, hlk, _⟩
  · rw [← hf.1]; exact h0
  · obtain ⟨d, hd, _, rfl⟩ := keyOf_inv hkey
    rw [hf.has hd, hz d hd] at hlk
    cases hlk
theorem Off.of_turned {w w' : World} {b : Nat} (h : w.mapTurned w' b) : Off b w w' := Off.of_grown h.grown

set_option maxRecDepth 100000 in
set_option maxHeartbeats 2000000 in
theorem drop_any (g b n c : Nat) (f : List Int → Option Int) (now : Int) (w : World) (h : IX w g b n f c) (hn : n ≤ 1000) :
    Calls Try.prog 15 #[.pointer (some ⟨g, 0, none⟩), .int .i64 now] w fun e w' => ∃ k c' : Nat, e = .returned (.int .i64 k) ∧ k + c' = c ∧ IX w' g b n (liveF f now) c' ∧ Off b w w' := by
  obtain ⟨hg, hgb, hm⟩ := h
  have hc := hm.le
  go_enter Try.func15, Try.ntmps15
  go_wp2_with (at_range; refine dRange Try.underlying53 rfl _ rfl rfl hm ?_; intro w1 hR1 hg1 hs1)
  simp only [Act.put, List.setIfInBounds_toArray, List.set_cons_zero, List.set_cons_succ]
  have hoff1 : Off b w w1 := ⟨hg1.os, hg1.tape, hg1.output, hg1.size, fun k hk _ => hg1.block k hk (by simp)⟩
  have hblt := hm.lt
  have hglt := cell_lt hg
  go_loopw [5] (fun m wr => ∃ (k c' cnt : Nat) (f' : List Int → Option Int) (left : List Int → Bool), m = .int .i64 k ∧ k + c' = c ∧ DR wr b w.heap.size n f' c' left cnt ∧ Off b w wr ∧ Hid (∀ d, DigOk d → f' d = if left d then f d else liveF f now d)) (fun _ wr => wr.rangeLeft b w.heap.size)
  case atStart => exact ⟨0, c, c, f, _, rfl, by omega, hR1, hoff1, Lib.hid (fun d _ => by
    cases h : f d <;> simp [h, liveF])⟩
  case round =>
    obtain ⟨k, c', cnt, f', left, rfl, hk, hR, hoff, HF⟩ := hrel
    have hgr : wr.cell? ⟨g, 0, none⟩ = some (.map (some b)) := hoff.cell hg hgb
    have hcnt := Lib.hid hR.left_eq
    have hszr := hoff.size
    go_wp2_with (at_next; refine dNext rfl _ rfl rfl hR ?_ ?_)
    · intro h0 hall
      go_wp2_with fail
      go_ret
      refine ⟨k, c', rfl, hk, ⟨hgr, hgb, hR.owns.congr fun d hd => ?_⟩, hoff⟩
      rw [HF.out d hd, if_neg (by rw [hall d hd]; simp)]
    · intro d t w2 cnt' hd hti hl hfd hR2 hlt hg2 hs2 hen
      have h1 := u8s_one d
      have h32 : (u8s d).length = 32 := by simp [u8s, hd.len]
      have hfd0 : f d = some t := by
        have := HF.out d hd
        rw [if_pos hl] at this
        rw [← this]; exact hfd
      have hoff2 : Off b w w2 := ⟨hg2.os.trans hoff.os, hg2.tape.trans hoff.tape, hg2.output.trans hoff.output, by omega, fun i hi hne => (hg2.block i (by omega) (fun e => by injection e with e; omega)).trans (hoff.block i hi hne)⟩
      have hgr2 : w2.cell? ⟨g, 0, none⟩ = some (.map (some b)) := hoff2.cell hg hgb
      have HFD := Lib.hid hfd
      have HFD0 := Lib.hid hfd0
      have HLT := Lib.hid hlt
      have HS2 := Lib.hid hs2
      clear hR hR1 hfd hfd0 hlt hs2
      rcases Bool.eq_false_or_eq_true (decide (t < now)) with t1 | t1
      · go_wp2_with (refine stNew 26 (.tmp 6) (.tmp 18) rfl rfl rfl rfl (by simp only [List.size_toArray, h32]; kernel_rfl) (by simp only [List.size_toArray, h32] <;> rfl) h1 ?_; intro w3 hblk hb3 hs3)
        have hgr3 := Below.cell' hb3 hgr2
        have hR3 := hR2.keep hb3
        have hoff3 := hoff2.trans (Off.of_below hb3)
        have hrd3 := Blk.range hblk
        rw [List.toList_toArray] at hrd3
        have hw2b : w2.heap.size ≠ b := by have := hoff2.size; omega
        have hud := Try.underlying26
        have hui : (Try.prog.info? 26).map (·.size) = some (u8s d).length := by rw [h32]; kernel_rfl
        have hR3d : DR w3.drew b w.heap.size n f' c' (fun x => left x && !(x == d)) cnt' := hR3.of_blocks rfl rfl
        have e1 : IntKind.i64.wrap ((k : Int) + 1) = (k : Int) + 1 := IntWalk.i64_in _ (by omega)
        clear hR2 hblk hen
        go_region_held3 (fun w' => w'.cell? ⟨g, 0, none⟩ = some (.map (some b)) ∧ w'.rangeAt w2.heap.size 0 (u8s d))
          (first
            | (refine ⟨by assumption, by assumption⟩)
            | (go_split_ands; exact ⟨by assumption, by assumption⟩)
            | (go_split_ands; exact ⟨(Off.of_turned hturn).cell (by assumption) hgb, fun j u hj => (Off.of_turned hturn).cell (show w3.drew.cell? ⟨w2.heap.size, 0 + j, none⟩ = some u from hrd3 j u hj) hw2b⟩)
            | go_keep)
          ((refine stepDel Try.underlying53 _ _ rfl rfl rfl hR3d hd rfl ?_; intro w4 c4 cnt4 hR4 hc4 hle4 hturn))
        go_wp2_with fail
        have hoff4 := hoff3.trans (show Off b w3 w4 from (show Off b w3 w3.drew from ⟨rfl, rfl, rfl, Nat.le_refl _, fun _ _ _ => rfl⟩).trans (Off.of_turned hturn))
        rw [HFD.out, Option.isSome_some, if_pos rfl] at hc4
        refine ⟨⟨k + 1, c4, cnt4, cut f' d, _, by go_num, by omega, hR4, hoff4, Lib.hid fun x hx => ?_⟩, ?_⟩
        · by_cases hxd : x = d
          · subst hxd
            have hlt := of_decide_eq_true t1
            simp [cut, liveF, HFD0.out, hlt]
          · simp only [cut, if_neg hxd]
            rw [HF.out x hx]
            simp [hxd]
        · rw [hcnt.out, hR4.left_eq]
          have := HLT.out
          omega
      · go_wp2_with (refine stNew 26 (.tmp 6) (.tmp 18) rfl rfl rfl rfl (by simp only [List.size_toArray, h32]; kernel_rfl) (by simp only [List.size_toArray, h32] <;> rfl) h1 ?_; intro w3 hblk hb3 hs3)
        refine ⟨⟨k, c', cnt', f', _, rfl, hk, hR2.keep hb3, hoff2.trans (Off.of_below hb3), Lib.hid fun x hx => ?_⟩, ?_⟩
        · by_cases hxd : x = d
          · subst hxd
            have hlt := of_decide_eq_false t1
            simp [liveF, HFD.out, HFD0.out, hlt]
          · rw [HF.out x hx]
            simp [hxd]
        · rw [hcnt.out, (hR2.keep hb3).left_eq]
          exact HLT.out
end Go.Proofs.Ytlhehnghplchfaa
