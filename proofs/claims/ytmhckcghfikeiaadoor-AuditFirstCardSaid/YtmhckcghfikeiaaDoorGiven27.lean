/- tolllaw27.given: the rows, as they are. -/
import Derived.Test.YtmhckcghfikeiaaDoorEqS
import Derived.Test.YtmhckcghfikeiaaDoorHeld2
namespace Go.Proofs.YtmhckcghfikeiaaDoor
open Go.RowKit
attribute [local irreducible] wpQuiet wpAnyH
set_option linter.unusedSimpArgs false

theorem tEng : SlT Tryd.prog 27 49 36 64 := SlT.mk' Tryd.underlying27 (z := .agg (rowC ⟨0, 0, 0, 0, List.replicate 32 0⟩).toArray) (by kernel_rfl) rfl (by decide)
theorem built_row (r : RowD) (h : r.dig.length = 32) : Tryd.prog.built 49 [(0, .int .i64 r.kind), (1, .int .i64 r.code), (2, .int .i64 r.now), (3, .int .i64 r.live), (4, .agg (u8s r.dig).toArray)] = some (rowC r).toArray := by
  obtain ⟨kind, code, now, live, dig⟩ := r
  obtain ⟨D, rfl⟩ : ∃ D : Nat → Int, dig = (List.range 32).map D := ⟨fun i => dig.getD i 0, by
    apply List.ext_getElem
    · simpa using h
    · intro i h1 h2
      simp [List.getD_eq_getElem?_getD, List.getElem?_eq_getElem h1]⟩
  kernel_rfl
def GivenPost (l : List RowD) (w : World) (e : Ending) (w' : World) : Prop := ∃ v, e = .returned v ∧ w'.ownsRow w.heap.size 49 36 v l.length (l.flatMap rowC) ∧ Below w.heap.size w w'
theorem rows_snoc (l : List RowD) (k : Nat) (h : k < l.length) : (l.take k).flatMap rowC ++ rowC l[k] = (l.take (k + 1)).flatMap rowC := by
  rw [List.take_succ_eq_append_getElem h, List.flatMap_append]
  simp

/-- What stands while the region runs. -/
structure GS (b off : Nat) (r : RowD) (w : World) : Prop where
  c0 : w.cell? ⟨b, off, none⟩ = some (.int .i64 r.kind)
  c1 : w.cell? ⟨b, off + 1, none⟩ = some (.int .i64 r.code)
  c2 : w.cell? ⟨b, off + 2, none⟩ = some (.int .i64 r.now)
  c3 : w.cell? ⟨b, off + 3, none⟩ = some (.int .i64 r.live)
  dig : w.rangeAt b (off + 4) (u8s r.dig)
theorem GS.keep {b off : Nat} {r : RowD} {w w' : World} (h : GS b off r w) (hk : ∀ (p : Addr) (u : Value), p.block = b → w.cell? p = some u → w'.cell? p = some u) : GS b off r w' :=
  ⟨hk _ _ rfl h.c0, hk _ _ rfl h.c1, hk _ _ rfl h.c2, hk _ _ rfl h.c3, fun j u hj => hk _ _ rfl (h.dig j u hj)⟩
theorem GS.drew {b off : Nat} {r : RowD} {w : World} (h : GS b off r w) : GS b off r w.drew := ⟨h.c0, h.c1, h.c2, h.c3, h.dig⟩
theorem GS.alloc {b off : Nat} {r : RowD} {w : World} (h : GS b off r w) (o : Obj) : GS b off r (w.alloc o) := h.keep fun _ _ _ hu => Below.cell' (bel1 w o) hu

set_option maxRecDepth 100000 in
set_option maxHeartbeats 4000000 in
theorem given_any (l : List RowD) (A : Option Addr) (cap : Nat) (w : World) (hs : Sn w 36 (.slice A l.length cap) l.length (l.flatMap rowC)) (hok : ∀ r ∈ l, RowOk r) (hl : l.length ≤ 1000) :
    Calls Tryd.prog 10 #[.slice A l.length cap] w (GivenPost l w) := by
  have HS := Lib.hid hs
  have HOK := Lib.hid hok
  clear hs hok
  go_enter Tryd.func10, Tryd.ntmps10
  go_wp2_with fail
  go_loopw [3, 4] (fun m i wr => ∃ k : Nat, k ≤ l.length ∧ i = .int .i64 k ∧ Hid (wr.ownsRow w.heap.size 49 36 m k ((l.take k).flatMap rowC)) ∧ Hid (Below w.heap.size w wr)) (fun _ i _ => l.length - (intOf i).toNat)
  case atStart => exact ⟨0, Nat.zero_le _, rfl, Lib.hid (World.ownsRow_nil _ _ _ _), Lib.hid (Below.refl _ _)⟩
  case round =>
    obtain ⟨k, hk, rfl, HO, HB⟩ := hrel
    rcases Nat.lt_or_ge k l.length with hlt | hge
    · obtain ⟨b, off, eA, hr⟩ := at_row (HS.out.below HB.out) HOK.out k hlt
      subst eA
      obtain ⟨r, hrr⟩ : ∃ r, r = l[k] := ⟨_, rfl⟩
      rw [← hrr] at hr
      have hro : RowOk r := by rw [hrr]; exact HOK.out _ (List.getElem_mem _)
      have hrs := rows_snoc l k hlt
      rw [← hrr] at hrs
      have HRO := Lib.hid hro
      have HRS := Lib.hid hrs
      have hc0 : wr.cell? ⟨b, off + k * 36, none⟩ = some (.int .i64 r.kind) := hr 0 _ rfl
      have hc1 : wr.cell? ⟨b, off + k * 36 + 1, none⟩ = some (.int .i64 r.code) := hr 1 _ rfl
      have hc2 : wr.cell? ⟨b, off + k * 36 + 2, none⟩ = some (.int .i64 r.now) := hr 2 _ rfl
      have hc3 : wr.cell? ⟨b, off + k * 36 + 3, none⟩ = some (.int .i64 r.live) := hr 3 _ rfl
      have HRD := Lib.hid (row_dig hr)
      have hi0 : (0 : Int) ≤ k := by omega
      have hi1 : (k : Int) < l.length := by omega
      have HHR := Lib.hid hr
      have hsz := HB.out.size
      clear hrr hro hrs hr
      --REG--
      have HGS : Hid (GS b (off + k * 36) r wr) := Lib.hid ⟨hc0, hc1, hc2, hc3, HRD.out⟩
      have HBR := Lib.hid (built_row r HRO.out.dig)
      have HRL := Lib.hid (rowC_length HRO.out)
      have HD32 : Hid ((Tryd.prog.info? 47).map (·.size) = some (u8s r.dig).length) := Lib.hid (by rw [u8s_length, HRO.out.dig]; kernel_rfl)
      have HNB : Hid (some b ≠ u3.ownBlock) := Lib.hid (fun e => by
        have h1 := (HO.out.lt b e.symm).1
        obtain ⟨b2, off2, e2, hr2⟩ := at_row HS.out HOK.out k hlt
        injection e2 with e2; injection e2 with e2 _; subst e2
        have := cell_lt (hr2 0 _ rfl)
        simp only at this
        omega)
      clear hc0 hc1 hc2 hc3
      go_wp2_with fail
      refine held_start 30 (GS b (off + k * 36) r) (by kernel_rfl) (by kernel_rfl) (HGS.out.drew) (fun hHeld => ?_)
      refine hMove 0 (Operand.tmp 3) (some 11) (u3) (by kernel_rfl) (by kernel_rfl) (by kernel_rfl) (by kernel_rfl) (by kernel_rfl) (fun _ _ _ h => h) (by exact rfl) hHeld ?_
      simp only [Act.put, List.setIfInBounds_toArray, List.set_cons_zero, List.set_cons_succ]
      refine hMove 1 (Operand.tmp 0) (some 12) (.slice (some ⟨b, off, none⟩) l.length cap) (by kernel_rfl) (by kernel_rfl) (by kernel_rfl) (by kernel_rfl) (by kernel_rfl) (fun _ _ _ h => h) (by exact rfl) hHeld ?_
      simp only [Act.put, List.setIfInBounds_toArray, List.set_cons_zero, List.set_cons_succ]
      refine hMove 2 (Operand.tmp 4) (some 13) (.int .i64 k) (by kernel_rfl) (by kernel_rfl) (by kernel_rfl) (by kernel_rfl) (by kernel_rfl) (fun _ _ _ h => h) (by exact rfl) hHeld ?_
      simp only [Act.put, List.setIfInBounds_toArray, List.set_cons_zero, List.set_cons_succ]
      refine hTake 3 (Op.indexAddr 22 (Operand.tmp 12) (Operand.tmp 13)) (some 14) (.pointer (some ⟨b, off + k * 36, none⟩)) (by kernel_rfl) (by kernel_rfl) (by kernel_rfl) (by kernel_rfl) (by kernel_rfl) (fun _ _ _ h => h) (fun o ho wX hX => by unfold execOp; simp only [ho]; go_simp) hHeld ?_
      simp only [Act.put, List.setIfInBounds_toArray, List.set_cons_zero, List.set_cons_succ]
      refine hTake 4 (Op.fieldAddr 51 (Operand.tmp 14) 0) (some 15) (.pointer (some ⟨b, off + k * 36, none⟩)) (by kernel_rfl) (by kernel_rfl) (by kernel_rfl) (by kernel_rfl) (by kernel_rfl) (fun _ _ _ h => h) (fun o ho wX hX => by unfold execOp; simp only [ho]; go_simp) hHeld ?_
      simp only [Act.put, List.setIfInBounds_toArray, List.set_cons_zero, List.set_cons_succ]
      refine hTake 5 (Op.load 3 (Operand.tmp 15)) (some 16) (.int .i64 r.kind) (by kernel_rfl) (by kernel_rfl) (by kernel_rfl) (by kernel_rfl) (by kernel_rfl) (fun _ _ _ h => h) (fun o ho wX hX => by have hcell := hX.c0; unfold execOp; simp only [ho]; go_simp) hHeld ?_
      simp only [Act.put, List.setIfInBounds_toArray, List.set_cons_zero, List.set_cons_succ]
      refine hMove 6 (Operand.tmp 0) (some 17) (.slice (some ⟨b, off, none⟩) l.length cap) (by kernel_rfl) (by kernel_rfl) (by kernel_rfl) (by kernel_rfl) (by kernel_rfl) (fun _ _ _ h => h) (by exact rfl) hHeld ?_
      simp only [Act.put, List.setIfInBounds_toArray, List.set_cons_zero, List.set_cons_succ]
      refine hMove 7 (Operand.tmp 4) (some 18) (.int .i64 k) (by kernel_rfl) (by kernel_rfl) (by kernel_rfl) (by kernel_rfl) (by kernel_rfl) (fun _ _ _ h => h) (by exact rfl) hHeld ?_
      simp only [Act.put, List.setIfInBounds_toArray, List.set_cons_zero, List.set_cons_succ]
      refine hTake 8 (Op.indexAddr 22 (Operand.tmp 17) (Operand.tmp 18)) (some 19) (.pointer (some ⟨b, off + k * 36, none⟩)) (by kernel_rfl) (by kernel_rfl) (by kernel_rfl) (by kernel_rfl) (by kernel_rfl) (fun _ _ _ h => h) (fun o ho wX hX => by unfold execOp; simp only [ho]; go_simp) hHeld ?_
      simp only [Act.put, List.setIfInBounds_toArray, List.set_cons_zero, List.set_cons_succ]
      refine hTake 9 (Op.fieldAddr 51 (Operand.tmp 19) 1) (some 20) (.pointer (some ⟨b, off + k * 36 + 1, none⟩)) (by kernel_rfl) (by kernel_rfl) (by kernel_rfl) (by kernel_rfl) (by kernel_rfl) (fun _ _ _ h => h) (fun o ho wX hX => by unfold execOp; simp only [ho]; go_simp) hHeld ?_
      simp only [Act.put, List.setIfInBounds_toArray, List.set_cons_zero, List.set_cons_succ]
      refine hTake 10 (Op.load 3 (Operand.tmp 20)) (some 21) (.int .i64 r.code) (by kernel_rfl) (by kernel_rfl) (by kernel_rfl) (by kernel_rfl) (by kernel_rfl) (fun _ _ _ h => h) (fun o ho wX hX => by have hcell := hX.c1; unfold execOp; simp only [ho]; go_simp) hHeld ?_
      simp only [Act.put, List.setIfInBounds_toArray, List.set_cons_zero, List.set_cons_succ]
      refine hMove 11 (Operand.tmp 0) (some 22) (.slice (some ⟨b, off, none⟩) l.length cap) (by kernel_rfl) (by kernel_rfl) (by kernel_rfl) (by kernel_rfl) (by kernel_rfl) (fun _ _ _ h => h) (by exact rfl) hHeld ?_
      simp only [Act.put, List.setIfInBounds_toArray, List.set_cons_zero, List.set_cons_succ]
      refine hMove 12 (Operand.tmp 4) (some 23) (.int .i64 k) (by kernel_rfl) (by kernel_rfl) (by kernel_rfl) (by kernel_rfl) (by kernel_rfl) (fun _ _ _ h => h) (by exact rfl) hHeld ?_
      simp only [Act.put, List.setIfInBounds_toArray, List.set_cons_zero, List.set_cons_succ]
      refine hTake 13 (Op.indexAddr 22 (Operand.tmp 22) (Operand.tmp 23)) (some 24) (.pointer (some ⟨b, off + k * 36, none⟩)) (by kernel_rfl) (by kernel_rfl) (by kernel_rfl) (by kernel_rfl) (by kernel_rfl) (fun _ _ _ h => h) (fun o ho wX hX => by unfold execOp; simp only [ho]; go_simp) hHeld ?_
      simp only [Act.put, List.setIfInBounds_toArray, List.set_cons_zero, List.set_cons_succ]
      refine hTake 14 (Op.fieldAddr 51 (Operand.tmp 24) 2) (some 25) (.pointer (some ⟨b, off + k * 36 + 2, none⟩)) (by kernel_rfl) (by kernel_rfl) (by kernel_rfl) (by kernel_rfl) (by kernel_rfl) (fun _ _ _ h => h) (fun o ho wX hX => by unfold execOp; simp only [ho]; go_simp) hHeld ?_
      simp only [Act.put, List.setIfInBounds_toArray, List.set_cons_zero, List.set_cons_succ]
      refine hTake 15 (Op.load 2 (Operand.tmp 25)) (some 26) (.int .i64 r.now) (by kernel_rfl) (by kernel_rfl) (by kernel_rfl) (by kernel_rfl) (by kernel_rfl) (fun _ _ _ h => h) (fun o ho wX hX => by have hcell := hX.c2; unfold execOp; simp only [ho]; go_simp) hHeld ?_
      simp only [Act.put, List.setIfInBounds_toArray, List.set_cons_zero, List.set_cons_succ]
      refine hMove 16 (Operand.tmp 0) (some 27) (.slice (some ⟨b, off, none⟩) l.length cap) (by kernel_rfl) (by kernel_rfl) (by kernel_rfl) (by kernel_rfl) (by kernel_rfl) (fun _ _ _ h => h) (by exact rfl) hHeld ?_
      simp only [Act.put, List.setIfInBounds_toArray, List.set_cons_zero, List.set_cons_succ]
      refine hMove 17 (Operand.tmp 4) (some 28) (.int .i64 k) (by kernel_rfl) (by kernel_rfl) (by kernel_rfl) (by kernel_rfl) (by kernel_rfl) (fun _ _ _ h => h) (by exact rfl) hHeld ?_
      simp only [Act.put, List.setIfInBounds_toArray, List.set_cons_zero, List.set_cons_succ]
      refine hTake 18 (Op.indexAddr 22 (Operand.tmp 27) (Operand.tmp 28)) (some 29) (.pointer (some ⟨b, off + k * 36, none⟩)) (by kernel_rfl) (by kernel_rfl) (by kernel_rfl) (by kernel_rfl) (by kernel_rfl) (fun _ _ _ h => h) (fun o ho wX hX => by unfold execOp; simp only [ho]; go_simp) hHeld ?_
      simp only [Act.put, List.setIfInBounds_toArray, List.set_cons_zero, List.set_cons_succ]
      refine hTake 19 (Op.fieldAddr 51 (Operand.tmp 29) 3) (some 30) (.pointer (some ⟨b, off + k * 36 + 3, none⟩)) (by kernel_rfl) (by kernel_rfl) (by kernel_rfl) (by kernel_rfl) (by kernel_rfl) (fun _ _ _ h => h) (fun o ho wX hX => by unfold execOp; simp only [ho]; go_simp) hHeld ?_
      simp only [Act.put, List.setIfInBounds_toArray, List.set_cons_zero, List.set_cons_succ]
      refine hTake 20 (Op.load 3 (Operand.tmp 30)) (some 31) (.int .i64 r.live) (by kernel_rfl) (by kernel_rfl) (by kernel_rfl) (by kernel_rfl) (by kernel_rfl) (fun _ _ _ h => h) (fun o ho wX hX => by have hcell := hX.c3; unfold execOp; simp only [ho]; go_simp) hHeld ?_
      simp only [Act.put, List.setIfInBounds_toArray, List.set_cons_zero, List.set_cons_succ]
      refine hMove 21 (Operand.tmp 0) (some 32) (.slice (some ⟨b, off, none⟩) l.length cap) (by kernel_rfl) (by kernel_rfl) (by kernel_rfl) (by kernel_rfl) (by kernel_rfl) (fun _ _ _ h => h) (by exact rfl) hHeld ?_
      simp only [Act.put, List.setIfInBounds_toArray, List.set_cons_zero, List.set_cons_succ]
      refine hMove 22 (Operand.tmp 4) (some 33) (.int .i64 k) (by kernel_rfl) (by kernel_rfl) (by kernel_rfl) (by kernel_rfl) (by kernel_rfl) (fun _ _ _ h => h) (by exact rfl) hHeld ?_
      simp only [Act.put, List.setIfInBounds_toArray, List.set_cons_zero, List.set_cons_succ]
      refine hTake 23 (Op.indexAddr 22 (Operand.tmp 32) (Operand.tmp 33)) (some 34) (.pointer (some ⟨b, off + k * 36, none⟩)) (by kernel_rfl) (by kernel_rfl) (by kernel_rfl) (by kernel_rfl) (by kernel_rfl) (fun _ _ _ h => h) (fun o ho wX hX => by unfold execOp; simp only [ho]; go_simp) hHeld ?_
      simp only [Act.put, List.setIfInBounds_toArray, List.set_cons_zero, List.set_cons_succ]
      refine hTake 24 (Op.fieldAddr 51 (Operand.tmp 34) 4) (some 35) (.pointer (some ⟨b, off + k * 36 + 4, none⟩)) (by kernel_rfl) (by kernel_rfl) (by kernel_rfl) (by kernel_rfl) (by kernel_rfl) (fun _ _ _ h => h) (fun o ho wX hX => by unfold execOp; simp only [ho]; go_simp) hHeld ?_
      simp only [Act.put, List.setIfInBounds_toArray, List.set_cons_zero, List.set_cons_succ]
      refine hLoad 25 47 (Operand.tmp 35) (some 36) (cs := u8s r.dig) (by kernel_rfl) (by kernel_rfl) (by kernel_rfl) (by kernel_rfl) (by kernel_rfl) (fun _ _ _ h => h) (by exact rfl) (fun _ hX => hX.dig) Tryd.underlying47 rfl HD32.out hHeld ?_
      simp only [Act.put, List.setIfInBounds_toArray, List.set_cons_zero, List.set_cons_succ]
      refine hBuild 26 49 #[(0, Operand.tmp 16), (1, Operand.tmp 21), (2, Operand.tmp 26), (3, Operand.tmp 31), (4, Operand.tmp 36)] (some 37) (cells := (rowC r).toArray) (by kernel_rfl) (by kernel_rfl) (by kernel_rfl) (by kernel_rfl) (by kernel_rfl) (fun _ _ _ h => h) (by rfl) HBR.out hHeld ?_
      simp only [Act.put, List.setIfInBounds_toArray, List.set_cons_zero, List.set_cons_succ]
      refine wpAnyH_ready (rs := [27]) (by kernel_rfl) (by simp) ?_
      refine rLit1 27 tEng (Operand.tmp 37) (some 38) (cs := rowC r) (by kernel_rfl) (by kernel_rfl) (by exact rfl) HRL.out (by omega) (hHeld.alloc _) ?_ AllReadyH.nil
      simp only [Act.put, List.setIfInBounds_toArray, List.set_cons_zero, List.set_cons_succ]
      have hHeld := hHeld.alloc (.cells (rowC r).toArray 49)
      refine wpAnyH_ready (rs := [28]) (by kernel_rfl) (by simp) ?_
      refine rApp 28 tEng (.tmp 11) (.tmp 38) (some 39) (by kernel_rfl) (by kernel_rfl) (by exact rfl) (HO.out.drew.alloc _) (by exact rfl) (Sn.new _ (rowC r).toArray 49 36 1 (by rw [List.size_toArray, HRL.out])) (by rw [List.toList_toArray]; exact rowC_one r) (by unfold maxLen; omega) (by omega) (by simp; omega) ?_ AllReadyH.nil
      intro v2 w2 hown hgrow hblk
      rw [List.toList_toArray] at hown
      refine ⟨hHeld.keep fun p u hp hu => hgrow.cell hu (by rw [hp]; exact HNB.out), fun hHeld2 => ?_⟩
      simp only [Act.put, List.setIfInBounds_toArray, List.set_cons_zero, List.set_cons_succ]
      have hHeld := hHeld2
      refine hTake 29 (Op.assign (Operand.tmp 39)) (some 3) (v2) (by kernel_rfl) (by kernel_rfl) (by kernel_rfl) (by kernel_rfl) (by kernel_rfl) (fun _ _ _ h => h) (fun o ho wX hX => by unfold execOp; simp only [ho]; go_simp) hHeld ?_
      simp only [Act.put, List.setIfInBounds_toArray, List.set_cons_zero, List.set_cons_succ]
      refine wpAnyH_done (by kernel_rfl) ?_ _
      have hO3 := hown
      rw [HRS.out] at hO3
      have HO3 := Lib.hid hO3
      have HB3 := Lib.hid ((HB.out.drew.alloc (by simp; omega) _).grown hgrow (by simp; omega) (fun g hg => (HO.out.lt g hg).1))
      clear hO3 hown hgrow hblk hHeld2 hHeld
      go_wp2_with fail
      exact ⟨⟨k + 1, by omega, by go_num, HO3, HB3⟩, by simp [intOf]; omega⟩
    · obtain rfl : k = l.length := by omega
      have hO := HO.out
      rw [List.take_length] at hO
      have HO2 := Lib.hid hO
      clear hO
      go_wp2_with fail
      go_ret
      exact ⟨_, rfl, HO2.out, HB.out⟩
end Go.Proofs.YtmhckcghfikeiaaDoor
