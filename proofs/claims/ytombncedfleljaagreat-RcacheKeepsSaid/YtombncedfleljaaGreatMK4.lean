/- Parts: tollref20.Put: its walk. -/
import Derived.Test.YtombncedfleljaaGreatMK3
namespace Go.Proofs.YtombncedfleljaaGreat
set_option maxRecDepth 100000
open Go.RowKit
attribute [local irreducible] wpQuiet wpAnyH

set_option linter.unusedSimpArgs false
set_option maxRecDepth 100000 in
set_option maxHeartbeats 2000000 in
theorem ref_put_own (va : Value) (L : List (List Int × Int)) (e : List Int × Int) (w : World) (hs : Sn w 33 va L.length (L.flatMap entP)) (hok : ∀ p ∈ L, EntOk p) (hl : L.length ≤ 1000) (he : EntOk e) :
    Calls Tryz.prog 12 #[va, .agg (entP e).toArray] w fun r w' => ∃ v, r = .returned (.tuple #[v, .bool (refPut L e).2]) ∧ Sn w' 33 v (refPut L e).1.length ((refPut L e).1.flatMap entP) ∧ Below w.heap.size w w' ∧ ∀ b, v.ownBlock = some b → va.ownBlock = some b ∨ (w.heap.size ≤ b ∧ b < w'.heap.size) := by
  obtain ⟨A, cap, rfl, hcap, _, _⟩ := id hs
  have HS := Lib.hid hs
  have HOK := Lib.hid hok
  clear hs hok
  have hbA : Below w.heap.size w (w.alloc (.cells (entP e).toArray 35)) := (by repeat (first | exact Below.refl _ _ | assumption | refine bdrewN ?_ _ | refine Below.setCell ?_ (by first | exact Nat.le_refl _ | assumption | omega | (simp <;> omega)) _ | refine Below.alloc ?_ (by first | exact Nat.le_refl _ | assumption | omega | (simp <;> omega)) _))
  have hre := (Blk.new w 35 (entP e).toArray).range
  rw [List.toList_toArray] at hre
  have hsA : (w.alloc (.cells (entP e).toArray 35)).heap.size = w.heap.size + 1 := by simp
  go_enter Tryz.func12, Tryz.ntmps12
  go_wp2_with fail
  obtain ⟨w1, hw1⟩ : ∃ w1, w1 = w.alloc (.cells (entP e).toArray 35) := ⟨_, rfl⟩
  rw [← hw1] at hbA hre hsA ⊢
  clear hw1
  have HRE := Lib.hid hre
  have HHE := Lib.hid he
  have hs1 := HS.out.below hbA
  have hle := entP_length e he
  have HEL := Lib.hid hle
  clear hre
  go_loopw [6, 7, 8] (fun m pl i wr => ∃ (k : Nat) (p : Bool), k ≤ L.length ∧ i = .int .i64 k ∧ pl = .bool p ∧ p = (putS (L.take k) e).2 ∧ Hid (∀ q ∈ L.take k, blocks e q = false) ∧ wr.ownsRow w1.heap.size 35 33 m (putS (L.take k) e).1.length ((putS (L.take k) e).1.flatMap entP) ∧ Below w1.heap.size w1 wr) (fun _ _ i _ => L.length - (intOf i).toNat)
  case atStart => exact ⟨0, false, Nat.zero_le _, rfl, rfl, rfl, Lib.hid (by simp), World.ownsRow_nil _ _ _ _, Below.refl _ _⟩
  case round =>
    obtain ⟨k, p, hk, rfl, rfl, hp, hno, hown, hb⟩ := hrel
    by_cases hlt : k < L.length
    · obtain ⟨b, off, rfl, hr⟩ := at_elem entP EntOk 33 entP_length (hs1.below hb) HOK.out k hlt
      clear hr
      have HQ0 : Hid (∀ w', Below w1.heap.size w1 w' → w'.rangeAt b (off + k * 33) (entP L[k])) := Lib.hid (fun w' hb' => by
        obtain ⟨b', off', hA, hr'⟩ := at_elem entP EntOk 33 entP_length (hs1.below hb') HOK.out k hlt
        injection hA with hA
        injection hA with h1 h2 _
        subst h1 h2
        exact hr')
      have HE0 : Hid (∀ w', Below w1.heap.size w1 w' → w'.rangeAt w.heap.size 0 (entP e)) := Lib.hid (fun w' hb' j u hj => Below.cell' hb' (HRE.out j u hj))
      have HPK := Lib.hid (HOK.out L[k] (List.getElem_mem hlt))
      have hstep := Lib.hid (putS_snoc L e k hlt)
      have hsnoc : Hid (blocks e L[k] = false → ∀ q ∈ L.take (k + 1), blocks e q = false) := Lib.hid (fun hf q hq => by
        rw [List.take_succ_eq_append_getElem hlt, List.mem_append] at hq
        rcases hq with hq | hq
        · exact hno.out q hq
        · obtain rfl : q = L[k] := by simpa using hq
          exact hf)
      have hstop : Hid (blocks e L[k] = true → refPut L e = (L, false)) := Lib.hid (fun hf => by
        unfold refPut
        rw [if_pos (List.any_eq_true.2 ⟨_, List.getElem_mem hlt, hf⟩)])
      obtain ⟨q, hq⟩ : ∃ q, q = L[k] := ⟨_, rfl⟩
      have hOl := putS_len (L.take k) e
      rw [List.length_take, Nat.min_eq_left (by omega)] at hOl
      obtain ⟨⟨O, p'⟩, hO⟩ : ∃ S, S = putS (L.take k) e := ⟨_, rfl⟩
      rw [← hO] at hown hp hstep hOl
      rw [← hq] at HQ0 HPK hstep hsnoc hstop
      obtain rfl : p = p' := hp
      replace hown : wr.ownsRow w1.heap.size 35 33 u6 O.length (O.flatMap entP) := hown
      have hOl1 : O.length ≤ 1001 := by have := hOl.1; simp only at this; omega
      clear hq hO hOl hno
      have hpk := HPK.out
      have HQD := run_eqD hpk.dig he.dig
      have q32 : (u8s q.1).length = 32 := by simp [u8s, hpk.dig.len]
      have e32 : (u8s e.1).length = 32 := by simp [u8s, he.dig.len]
      have hq33 := entP_length q hpk
      have hi0 : (0 : Int) ≤ k := by omega
      have hi1 : (k : Int) < L.length := by omega
      obtain ⟨hr1, htc⟩ := ent_parts (HQ0.out wr hb) hpk
      obtain ⟨hr2, hec⟩ := ent_parts (HE0.out wr hb) he
      replace hec : wr.cell? ⟨w.heap.size, 32, none⟩ = some (.int .i64 e.2) := by simpa using hec
      have HR1 := Lib.hid hr1
      have HR2 := Lib.hid hr2
      have hud := Tryz.underlying33
      have hua : (Tryz.prog.info? 33).map (·.size) = some (u8s q.1).length := by rw [q32]; kernel_rfl
      have hub : (Tryz.prog.info? 33).map (·.size) = some (u8s e.1).length := by rw [e32]; kernel_rfl
      have hbW := bstep hbA hb
      clear hr1 hr2
      have hcase : decide (q.1 = e.1) = false ∨ decide (q.1 = e.1) = true ∧ decide (e.2 ≤ q.2) = true ∨ decide (q.1 = e.1) = true ∧ decide (e.2 ≤ q.2) = false := by
        cases decide (q.1 = e.1) <;> cases decide (e.2 ≤ q.2) <;> simp
      have hsz1 := hb.size
      go_wp2_with fail
      rcases hcase with t1 | ⟨t1, t2⟩ | ⟨t1, t2⟩
      all_goals
        have heq := HQD
        rw [t1] at heq
        refine wp_region_quiet_lit (by kernel_rfl) (by kernel_rfl) ?_
        repeat (first
          | (refine qLoad 33 (.tmp 18) (by exact rfl) (by exact rfl) (by exact rfl) HR1.out hud rfl hua ?_; simp only [Act.put, List.setIfInBounds_toArray, List.set_cons_zero, List.set_cons_succ])
          | (refine qLoad 33 (.tmp 20) (by exact rfl) (by exact rfl) (by exact rfl) HR2.out hud rfl hub ?_; simp only [Act.put, List.setIfInBounds_toArray, List.set_cons_zero, List.set_cons_succ])
          | quiet_step (fail))
        refine wpQuiet_nil ?_
        intro w2 hw2
        obtain ⟨nq, hw3⟩ := hw2
        have hb2 : Below w1.heap.size w1 w2 := by rw [hw3]; exact bdrewN hb _
        have hown2 : w2.ownsRow w1.heap.size 35 33 u6 O.length (O.flatMap entP) := by rw [hw3]; exact hown
        clear hw3 htc hec HR1 HR2 heq
      rotate_left 1
      · go_wp2_with fail
        go_ret2
        rw [hstop.out (by unfold blocks; rw [t1, t2]; rfl)]
        exact ⟨_, rfl, hs1.below hb2 |>.below (Below.refl _ _), bstep hbA hb2, fun b e => .inl e⟩
      all_goals
        have hq2 := HQ0.out w2 hb2
        have he2 := HE0.out w2 hb2
        have HQ2 := Lib.hid hq2
        have HE2 := Lib.hid he2
        have hqi : (Tryz.prog.info? 35).map (·.size) = some (entP q).length := by rw [hq33]; kernel_rfl
        have hei : (Tryz.prog.info? 35).map (·.size) = some (entP e).length := by rw [HEL.out]; kernel_rfl
        clear hq2 he2
        have hsz2 := hb2.size
        have HNB : Hid (blocks e q = false) := Lib.hid (by unfold blocks; first | (rw [t1]; rfl) | (rw [t1, t2]; rfl))
        have HT := Lib.hid t1
        have HQDH := Lib.hid HQD
        have HUD := Lib.hid (And.intro hua hub)
        have HH := Lib.hid (And.intro hqi hei)
        clear t1
        rcases Bool.eq_false_or_eq_true p with rfl | rfl
        · clear HQD hud hua hub q32 e32
          go_wp2_with fail
          refine wp_region_quiet_lit (by kernel_rfl) (by kernel_rfl) ?_
          repeat quiet_step (fail)
          refine wpQuiet_nil ?_
          intro w4 hw4
          obtain ⟨nq, hw4⟩ := hw4
          have hb4 : Below w1.heap.size w1 w4 := by rw [hw4]; exact bdrewN hb2 _
          have hown4 : w4.ownsRow w1.heap.size 35 33 u6 O.length (O.flatMap entP) := by rw [hw4]; exact hown2
          obtain ⟨O4, p4, hO4, hp4⟩ : ∃ O4 p4, O4 = O ∧ p4 = true := ⟨_, _, rfl, rfl⟩
          have hst : Hid (putStep e (O, true) q = (if decide (q.1 = e.1) then O4 else O4 ++ [q], p4)) := Lib.hid (by rw [hO4, hp4]; rfl)
          have hO4l : O4.length ≤ 1002 := by rw [hO4]; omega
          rw [← hO4] at hown4
          have HP4 := Lib.hid hp4
          clear hw4 hO4 hp4
          go_wp2_with fail
          have t1 := HT.out
          have hud := Tryz.underlying33
          have heq := HQDH.out
          rw [t1] at heq
          obtain ⟨hr1, _⟩ := ent_parts (HQ0.out w4 hb4) hpk
          obtain ⟨hr2, _⟩ := ent_parts (HE0.out w4 hb4) he
          have HR1 := Lib.hid hr1
          have HR2 := Lib.hid hr2
          have HHT := Lib.hid t1
          clear hr1 hr2 t1
          refine wp_region_quiet_lit (by kernel_rfl) (by kernel_rfl) ?_
          repeat (first
            | (refine qLoad 33 (.tmp 52) (by exact rfl) (by exact rfl) (by exact rfl) HR1.out hud rfl HUD.out.1 ?_; simp only [Act.put, List.setIfInBounds_toArray, List.set_cons_zero, List.set_cons_succ])
            | (refine qLoad 33 (.tmp 54) (by exact rfl) (by exact rfl) (by exact rfl) HR2.out hud rfl HUD.out.2 ?_; simp only [Act.put, List.setIfInBounds_toArray, List.set_cons_zero, List.set_cons_succ])
            | quiet_step (fail))
          refine wpQuiet_nil ?_
          intro w5 hw5
          obtain ⟨nq5, hw5⟩ := hw5
          have hb5 : Below w1.heap.size w1 w5 := by rw [hw5]; exact bdrewN hb4 _
          have hown5 := own_below hown4 (Below.refl w4.heap.size w4)
          replace hown5 := own_below hown4 (show Below w4.heap.size w4 w5 by rw [hw5]; exact bdrewN (Below.refl _ _) _)
          have hoA := own_below hown5 (balloc (Below.refl _ w5) (.cells (entP q).toArray 35))
          have hnA := Sn.new w5 (entP q).toArray 35 33 1 (by simp [hq33])
          have hbuild := build_row (entP q) 33 hq33
          have HQ5 := Lib.hid (HQ0.out w5 hb5)
          have hsz5 := hb5.size
          clear hw5 heq HR1 HR2
          go_wp2_with (first
            | (refine ld 35 _ rfl rfl rfl HQ5.out Tryz.underlying35 rfl HH.out.1 ?_)
            | (at_builtin; refine app tEntI (.tmp 57) (.tmp 62) rfl rfl rfl hoA rfl hnA (fun u hu => entPI q u (by simpa using hu)) (by unfold maxLen; omega) (by omega) (by simp; omega) ?_; intro v6 w6 hown6 hg6 _))
          have t1 := HHT.out
          first
            | (have hb6 : Below w1.heap.size w1 w6 := (hb5.alloc hb5.size (.cells (entP q).toArray 35)).grown hg6 (by simp; omega) (fun g hg => (hoA.lt g hg).1)
               refine ⟨⟨k + 1, _, by omega, by go_num, rfl, by rw [hstep.out, hst.out]; exact HP4.out.symm, Lib.hid (hsnoc.out HNB.out), ?_, hb6⟩, by simp [intOf]; omega⟩
               rw [hstep.out, hst.out, t1, if_neg (by simp), List.length_append, List.flatMap_append]
               simpa using hown6)
            | (refine ⟨⟨k + 1, _, by omega, by go_num, rfl, by rw [hstep.out, hst.out]; exact HP4.out.symm, Lib.hid (hsnoc.out HNB.out), ?_, hb5⟩, by simp [intOf]; omega⟩
               rw [hstep.out, hst.out, t1, if_pos rfl]
               exact hown5)
        · clear HQD hud hua hub q32 e32
          go_wp2_with fail
          refine wp_region_noPanic ?_
          clear hei hqi
          refine held_start 11 (fun w' => w'.rangeAt b (off + k * 33) (entP q) ∧ w'.rangeAt w.heap.size 0 (entP e) ∧ Below w2.heap.size w2 w') (by kernel_rfl) (by kernel_rfl) ⟨HQ2.out, HE2.out, (Below.refl _ _).drew⟩ (fun hHeld => ?_)
          refine hMove 0 (.tmp 7) (some 34) (.bool false) (by kernel_rfl) (by kernel_rfl) (by kernel_rfl) (by kernel_rfl) (by kernel_rfl) (fun _ _ _ h => h) (by exact rfl) hHeld ?_; simp only [Act.put, List.setIfInBounds_toArray, List.set_cons_zero, List.set_cons_succ]
          refine hTake 1 (.unOp .not 4 (.tmp 34)) (some 35) (.bool true) (by kernel_rfl) (by kernel_rfl) (by kernel_rfl) (by kernel_rfl) (by kernel_rfl) (fun _ _ _ h => h) (fun o ho wX hX => by unfold execOp; simp only [ho]; go_simp) hHeld ?_; simp only [Act.put, List.setIfInBounds_toArray, List.set_cons_zero, List.set_cons_succ]
          refine hMove 2 (.tmp 35) (some 36) (.bool true) (by kernel_rfl) (by kernel_rfl) (by kernel_rfl) (by kernel_rfl) (by kernel_rfl) (fun _ _ _ h => h) (by exact rfl) hHeld ?_; simp only [Act.put, List.setIfInBounds_toArray, List.set_cons_zero, List.set_cons_succ]
          refine hLoad 3 35 (.tmp 3) (some 37) (cs := entP e) (by kernel_rfl) (by kernel_rfl) (by kernel_rfl) (by kernel_rfl) (by kernel_rfl) (fun _ _ _ h => h) (by exact rfl) (fun _ hX => hX.2.1) Tryz.underlying35 rfl HH.out.2 hHeld ?_; simp only [Act.put, List.setIfInBounds_toArray, List.set_cons_zero, List.set_cons_succ]
          refine hMove 4 (.tmp 0) (some 38) (.slice (some ⟨b, off, none⟩) L.length cap) (by kernel_rfl) (by kernel_rfl) (by kernel_rfl) (by kernel_rfl) (by kernel_rfl) (fun _ _ _ h => h) (by exact rfl) hHeld ?_; simp only [Act.put, List.setIfInBounds_toArray, List.set_cons_zero, List.set_cons_succ]
          refine hMove 5 (.tmp 8) (some 39) (.int .i64 k) (by kernel_rfl) (by kernel_rfl) (by kernel_rfl) (by kernel_rfl) (by kernel_rfl) (fun _ _ _ h => h) (by exact rfl) hHeld ?_; simp only [Act.put, List.setIfInBounds_toArray, List.set_cons_zero, List.set_cons_succ]
          refine hTake 6 (.indexAddr 28 (.tmp 38) (.tmp 39)) (some 40) (.pointer (some ⟨b, off + k * 33, none⟩)) (by kernel_rfl) (by kernel_rfl) (by kernel_rfl) (by kernel_rfl) (by kernel_rfl) (fun _ _ _ h => h) (fun o ho wX hX => by unfold execOp; simp only [ho]; go_simp) hHeld ?_; simp only [Act.put, List.setIfInBounds_toArray, List.set_cons_zero, List.set_cons_succ]
          refine hLoad 7 35 (.tmp 40) (some 41) (cs := entP q) (by kernel_rfl) (by kernel_rfl) (by kernel_rfl) (by kernel_rfl) (by kernel_rfl) (fun _ _ _ h => h) (by exact rfl) (fun _ hX => hX.1) Tryz.underlying35 rfl HH.out.1 hHeld ?_; simp only [Act.put, List.setIfInBounds_toArray, List.set_cons_zero, List.set_cons_succ]
          refine wpAnyH_ready (rs := [8]) (by kernel_rfl) (by simp) (AllReadyH.cons rfl (fun K hK => ?_) AllReadyH.nil)
          go_simp
          refine (ref_compare_any e q _ he hpk).mono ?_
          rintro r wN ⟨rfl, hbN⟩
          go_wp2_with fail
          refine hK.out _ _ ⟨fun j u hj => Below.cell' hbN (hHeld.1 j u hj), fun j u hj => Below.cell' hbN (hHeld.2.1 j u hj), bstep hHeld.2.2 hbN⟩ (fun hHeld => ?_)
          refine hTake 9 (.binOp .lss 3 (.tmp 42) (.const (.int .i64 0)) 3) (some 43) (.bool (decide (cmpE e q < 0))) (by kernel_rfl) (by kernel_rfl) (by kernel_rfl) (by kernel_rfl) (by kernel_rfl) (fun _ _ _ h => h) (fun o ho wX hX => by unfold execOp; simp only [ho]; go_simp) hHeld ?_; simp only [Act.put, List.setIfInBounds_toArray, List.set_cons_zero, List.set_cons_succ]
          refine hTake 10 (.pick (.tmp 36) (.tmp 43) (.const (.bool false))) (some 44) (.bool (decide (cmpE e q < 0))) (by kernel_rfl) (by kernel_rfl) (by kernel_rfl) (by kernel_rfl) (by kernel_rfl) (fun _ _ _ h => h) (fun o ho wX hX => by unfold execOp; simp only [ho]; go_simp) hHeld ?_; simp only [Act.put, List.setIfInBounds_toArray, List.set_cons_zero, List.set_cons_succ]
          refine wpAnyH_done (by kernel_rfl) ?_ _
          refine NoPanic.normal ?_
          have hb3 := hb2.trans (hHeld.2.2.mono hsz2)
          have hown3 := own_below hown2 hHeld.2.2
          rcases Bool.eq_false_or_eq_true (decide (cmpE e q < 0)) with c1 | c1
          · rw [c1]
            have hoA := own_below hown3 (balloc (Below.refl _ wN) (.cells (entP e).toArray 35))
            have hnA := Sn.new wN (entP e).toArray 35 33 1 (by simp [HEL.out])
            have hbuild := build_row (entP e) 33 HEL.out
            have HE3 := Lib.hid (HE0.out wN hb3)
            go_wp2_with (first
              | (refine ld 35 _ rfl rfl rfl HE3.out Tryz.underlying35 rfl HH.out.2 ?_)
              | (at_builtin; refine app tEntI (.tmp 45) (.tmp 47) rfl rfl (v := u6) rfl hoA rfl hnA (fun u hu => entPI e u (by simpa using hu)) (by unfold maxLen; omega) (by omega) (by have := hb3.size; simp; omega) ?_; intro v4 w4 hown4 hg4 _))
            have hb4 : Below w1.heap.size w1 w4 := (hb3.alloc hb3.size (.cells (entP e).toArray 35)).grown hg4 (by simp; have := hb3.size; omega) (fun g hg => (hoA.lt g hg).1)
            obtain ⟨O4, p4, hO4, hp4⟩ : ∃ O4 p4, O4 = O ++ [e] ∧ p4 = true := ⟨_, _, rfl, rfl⟩
            have hst : Hid (putStep e (O, false) q = (if decide (q.1 = e.1) then O4 else O4 ++ [q], p4)) := Lib.hid (by rw [hO4, hp4]; unfold putStep; rw [c1]; rfl)
            have hO4l : O4.length ≤ 1002 := by rw [hO4]; simp; omega
            replace hown4 : w4.ownsRow w1.heap.size 35 33 v4 O4.length (O4.flatMap entP) := by rw [hO4, List.length_append, List.flatMap_append]; simpa using hown4
            have HP4 := Lib.hid hp4
            clear hO4 hp4 hoA hnA hg4
            have t1 := HT.out
            have hud := Tryz.underlying33
            have heq := HQDH.out
            rw [t1] at heq
            obtain ⟨hr1, _⟩ := ent_parts (HQ0.out w4 hb4) hpk
            obtain ⟨hr2, _⟩ := ent_parts (HE0.out w4 hb4) he
            have HR1 := Lib.hid hr1
            have HR2 := Lib.hid hr2
            have HHT := Lib.hid t1
            clear hr1 hr2 t1
            refine wp_region_quiet_lit (by kernel_rfl) (by kernel_rfl) ?_
            repeat (first
              | (refine qLoad 33 (.tmp 52) (by exact rfl) (by exact rfl) (by exact rfl) HR1.out hud rfl HUD.out.1 ?_; simp only [Act.put, List.setIfInBounds_toArray, List.set_cons_zero, List.set_cons_succ])
              | (refine qLoad 33 (.tmp 54) (by exact rfl) (by exact rfl) (by exact rfl) HR2.out hud rfl HUD.out.2 ?_; simp only [Act.put, List.setIfInBounds_toArray, List.set_cons_zero, List.set_cons_succ])
              | quiet_step (fail))
            refine wpQuiet_nil ?_
            intro w5 hw5
            obtain ⟨nq5, hw5⟩ := hw5
            have hb5 : Below w1.heap.size w1 w5 := by rw [hw5]; exact bdrewN hb4 _
            have hown5 := own_below hown4 (Below.refl w4.heap.size w4)
            replace hown5 := own_below hown4 (show Below w4.heap.size w4 w5 by rw [hw5]; exact bdrewN (Below.refl _ _) _)
            have hoA := own_below hown5 (balloc (Below.refl _ w5) (.cells (entP q).toArray 35))
            have hnA := Sn.new w5 (entP q).toArray 35 33 1 (by simp [hq33])
            have hbuild := build_row (entP q) 33 hq33
            have HQ5 := Lib.hid (HQ0.out w5 hb5)
            have hsz5 := hb5.size
            clear hw5 heq HR1 HR2
            go_wp2_with (first
              | (refine ld 35 _ rfl rfl rfl HQ5.out Tryz.underlying35 rfl HH.out.1 ?_)
              | (at_builtin; refine app tEntI (.tmp 57) (.tmp 62) rfl rfl rfl hoA rfl hnA (fun u hu => entPI q u (by simpa using hu)) (by unfold maxLen; omega) (by omega) (by simp; omega) ?_; intro v6 w6 hown6 hg6 _))
            have t1 := HHT.out
            first
              | (have hb6 : Below w1.heap.size w1 w6 := (hb5.alloc hb5.size (.cells (entP q).toArray 35)).grown hg6 (by simp; omega) (fun g hg => (hoA.lt g hg).1)
                 refine ⟨⟨k + 1, _, by omega, by go_num, rfl, by rw [hstep.out, hst.out]; exact HP4.out.symm, Lib.hid (hsnoc.out HNB.out), ?_, hb6⟩, by simp [intOf]; omega⟩
                 rw [hstep.out, hst.out, t1, if_neg (by simp), List.length_append, List.flatMap_append]
                 simpa using hown6)
              | (refine ⟨⟨k + 1, _, by omega, by go_num, rfl, by rw [hstep.out, hst.out]; exact HP4.out.symm, Lib.hid (hsnoc.out HNB.out), ?_, hb5⟩, by simp [intOf]; omega⟩
                 rw [hstep.out, hst.out, t1, if_pos rfl]
                 exact hown5)
          · rw [c1]
            obtain ⟨w4, hw4⟩ : ∃ w4, w4 = wN := ⟨_, rfl⟩
            have hb4 : Below w1.heap.size w1 w4 := by rw [hw4]; exact hb3
            have hown4 : w4.ownsRow w1.heap.size 35 33 u6 O.length (O.flatMap entP) := by rw [hw4]; exact hown3
            obtain ⟨O4, p4, hO4, hp4⟩ : ∃ O4 p4, O4 = O ∧ p4 = false := ⟨_, _, rfl, rfl⟩
            have hst : Hid (putStep e (O, false) q = (if decide (q.1 = e.1) then O4 else O4 ++ [q], p4)) := Lib.hid (by rw [hO4, hp4]; unfold putStep; rw [c1]; rfl)
            have hO4l : O4.length ≤ 1002 := by rw [hO4]; omega
            rw [← hO4] at hown4
            have HP4 := Lib.hid hp4
            rw [← hw4]
            clear hO4 hp4
            go_wp2_with fail
            have t1 := HT.out
            have hud := Tryz.underlying33
            have heq := HQDH.out
            rw [t1] at heq
            obtain ⟨hr1, _⟩ := ent_parts (HQ0.out w4 hb4) hpk
            obtain ⟨hr2, _⟩ := ent_parts (HE0.out w4 hb4) he
            have HR1 := Lib.hid hr1
            have HR2 := Lib.hid hr2
            have HHT := Lib.hid t1
            clear hr1 hr2 t1
            refine wp_region_quiet_lit (by kernel_rfl) (by kernel_rfl) ?_
            repeat (first
              | (refine qLoad 33 (.tmp 52) (by exact rfl) (by exact rfl) (by exact rfl) HR1.out hud rfl HUD.out.1 ?_; simp only [Act.put, List.setIfInBounds_toArray, List.set_cons_zero, List.set_cons_succ])
              | (refine qLoad 33 (.tmp 54) (by exact rfl) (by exact rfl) (by exact rfl) HR2.out hud rfl HUD.out.2 ?_; simp only [Act.put, List.setIfInBounds_toArray, List.set_cons_zero, List.set_cons_succ])
              | quiet_step (fail))
            refine wpQuiet_nil ?_
            intro w5 hw5
            obtain ⟨nq5, hw5⟩ := hw5
            have hb5 : Below w1.heap.size w1 w5 := by rw [hw5]; exact bdrewN hb4 _
            have hown5 := own_below hown4 (Below.refl w4.heap.size w4)
            replace hown5 := own_below hown4 (show Below w4.heap.size w4 w5 by rw [hw5]; exact bdrewN (Below.refl _ _) _)
            have hoA := own_below hown5 (balloc (Below.refl _ w5) (.cells (entP q).toArray 35))
            have hnA := Sn.new w5 (entP q).toArray 35 33 1 (by simp [hq33])
            have hbuild := build_row (entP q) 33 hq33
            have HQ5 := Lib.hid (HQ0.out w5 hb5)
            have hsz5 := hb5.size
            clear hw5 heq HR1 HR2
            go_wp2_with (first
              | (refine ld 35 _ rfl rfl rfl HQ5.out Tryz.underlying35 rfl HH.out.1 ?_)
              | (at_builtin; refine app tEntI (.tmp 57) (.tmp 62) rfl rfl rfl hoA rfl hnA (fun u hu => entPI q u (by simpa using hu)) (by unfold maxLen; omega) (by omega) (by simp; omega) ?_; intro v6 w6 hown6 hg6 _))
            have t1 := HHT.out
            first
              | (have hb6 : Below w1.heap.size w1 w6 := (hb5.alloc hb5.size (.cells (entP q).toArray 35)).grown hg6 (by simp; omega) (fun g hg => (hoA.lt g hg).1)
                 refine ⟨⟨k + 1, _, by omega, by go_num, rfl, by rw [hstep.out, hst.out]; exact HP4.out.symm, Lib.hid (hsnoc.out HNB.out), ?_, hb6⟩, by simp [intOf]; omega⟩
                 rw [hstep.out, hst.out, t1, if_neg (by simp), List.length_append, List.flatMap_append]
                 simpa using hown6)
              | (refine ⟨⟨k + 1, _, by omega, by go_num, rfl, by rw [hstep.out, hst.out]; exact HP4.out.symm, Lib.hid (hsnoc.out HNB.out), ?_, hb5⟩, by simp [intOf]; omega⟩
                 rw [hstep.out, hst.out, t1, if_pos rfl]
                 exact hown5)
    · obtain rfl : k = L.length := by omega
      rw [List.take_length] at hno hown hp
      have hOl := putS_len L e
      obtain ⟨⟨O, p'⟩, hO⟩ : ∃ S, S = putS L e := ⟨_, rfl⟩
      have hres : Hid (refPut L e = (if p' then O else O ++ [e], true)) := Lib.hid (by
        unfold refPut
        rw [if_neg (by rw [List.any_eq_true]; rintro ⟨x, hx, hbx⟩; rw [hno.out x hx] at hbx; cases hbx), ← hO])
      rw [← hO] at hown hp hOl
      obtain rfl : p = p' := hp
      replace hown : wr.ownsRow w1.heap.size 35 33 u6 O.length (O.flatMap entP) := hown
      have hOl1 : O.length ≤ 1001 := by have := hOl.1; simp only at this; omega
      have hei : (Tryz.prog.info? 35).map (·.size) = some (entP e).length := by rw [HEL.out]; kernel_rfl
      have HE3 : Hid (wr.rangeAt w.heap.size 0 (entP e)) := Lib.hid (fun j u hj => Below.cell' hb (HRE.out j u hj))
      have hbW := bstep hbA hb
      have hszr := hb.size
      clear hO hOl hno
      rcases Bool.eq_false_or_eq_true p with rfl | rfl
      · clear hei
        go_wp2_with fail
        go_ret2
        rw [hres.out]
        exact ⟨_, rfl, Sn.own hown, hbW, fun b e => .inr ⟨Nat.le_trans hbA.size (hown.lt b e).1, (hown.lt b e).2⟩⟩
      · have hoA := own_below hown (balloc (Below.refl _ wr) (.cells (entP e).toArray 35))
        have hnA := Sn.new wr (entP e).toArray 35 33 1 (by simp [HEL.out])
        have hbuild := build_row (entP e) 33 HEL.out
        have HH := Lib.hid hei
        clear hei
        go_wp2_with (first
          | (refine ld 35 _ rfl rfl rfl HE3.out Tryz.underlying35 rfl HH.out ?_)
          | (at_builtin; refine app tEntI (.tmp 66) (.tmp 68) rfl rfl rfl hoA rfl hnA (fun u hu => entPI e u (by simpa using hu)) (by unfold maxLen; omega) (by omega) (by simp; omega) ?_; intro v4 w4 hown4 hg4 _))
        have hb4 : Below w.heap.size w w4 := (hbW.alloc (by omega) (.cells (entP e).toArray 35)).grown hg4 (by simp; omega) (fun g hg => by have := (hoA.lt g hg).1; omega)
        go_ret2
        rw [hres.out]
        refine ⟨_, rfl, ?_, hb4, fun b e => .inr ⟨Nat.le_trans hbA.size (hown4.lt b e).1, (hown4.lt b e).2⟩⟩
        have := Sn.own hown4
        simp only [Bool.false_eq_true, if_false, List.length_append, List.flatMap_append]
        simpa using this
theorem ref_put_any (va : Value) (L : List (List Int × Int)) (e : List Int × Int) (w : World) (hs : Sn w 33 va L.length (L.flatMap entP)) (hok : ∀ p ∈ L, EntOk p) (hl : L.length ≤ 1000) (he : EntOk e) :
    Calls Tryz.prog 12 #[va, .agg (entP e).toArray] w fun r w' => ∃ v, r = .returned (.tuple #[v, .bool (refPut L e).2]) ∧ Sn w' 33 v (refPut L e).1.length ((refPut L e).1.flatMap entP) ∧ Below w.heap.size w w' := by
  refine (ref_put_own va L e w hs hok hl he).mono ?_
  rintro r w' ⟨v, h1, h2, h3, _⟩
  exact ⟨v, h1, h2, h3⟩
end Go.Proofs.YtombncedfleljaaGreat
