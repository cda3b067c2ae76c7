/- The law IndexOrder: its walk. -/
import Derived.Test.YtlhehnghplchfaaAwake20
import Derived.Test.YtlhehnghplchfaaOps20
import Derived.Test.YtlhehnghplchfaaSame
import Derived.Test.YtlhehnghplchfaaPerm
import Derived.Test.YtlhehnghplchfaaCount
import Derived.Test.YtlhehnghplchfaaSetRow
import Derived.Test.YtlhehnghplchfaaHeld
import Derived.Test.YtlhehnghplchfaaRefLive
namespace Go.Proofs.Ytlhehnghplchfaa
open Go.RowKit

attribute [local irreducible] wpAnyH wpQuiet
theorem IX.off {w w' : World} {g b n c : Nat} {f : List Int → Option Int} (h : IX w g b n f c) (h1 : w'.heap[g]? = w.heap[g]?) (h2 : w'.heap[b]? = w.heap[b]?) : IX w' g b n f c :=
  ⟨(World.cell?_of_block (a := ⟨g, 0, none⟩) h1).trans h.1, h.2.1, h.2.2.of_block h2⟩
theorem IX.lt {w : World} {g b n c : Nat} {f : List Int → Option Int} (h : IX w g b n f c) : g < w.heap.size ∧ b < w.heap.size := ⟨cell_lt h.1, h.2.2.lt⟩
theorem IX.i64 {w : World} {g b n c : Nat} {f : List Int → Option Int} (h : IX w g b n f c) : ∀ d t, DigOk d → f d = some t → isI64 t := fun _ _ hd ht => h.2.2.i64 hd ht
set_option linter.unusedSimpArgs false
set_option maxRecDepth 100000 in
set_option maxHeartbeats 4000000 in
theorem order_any (va : Value) (l : List OpD) (c : Nat) (w : World) (hs : Sn w 3 va l.length (l.flatMap opC)) (hok : ∀ o ∈ l, OpOk o) (hc : c ≤ 255) :
    Calls Try.prog 4 #[va, .int .u8 c] w fun e w' => e = .returned (.bool true) ∧ Below w.heap.size w w' := by
  obtain ⟨A, cap, rfl, hcap, _, _⟩ := id hs
  have HS := Lib.hid hs
  have HOK := Lib.hid hok
  clear hs hok
  rcases Bool.eq_false_or_eq_true (decide ((200 : Int) < l.length)) with d1 | d1
  · go_enter Try.func4, Try.ntmps4
    go_wp2_with fail
    refine (awake_any w).mono ?_
    rintro e w1 ⟨rfl, hb1⟩
    go_wp2_with fail
    refine (awake_any w1).mono ?_
    rintro e w2 ⟨rfl, hb2⟩
    go_wp2_with fail
    go_ret
    exact ⟨rfl, bstep hb1 hb2⟩
  · have hl : l.length ≤ 200 := by have := of_decide_eq_false d1; omega
    go_enter Try.func4, Try.ntmps4
    go_wp2_with fail
    refine (awake_any w).mono ?_
    rintro e w1 ⟨rfl, hb1⟩
    have hs1 := HS.out.below hb1
    go_wp2_with fail
    have hb1s := hb1.size
    go_loopw [5, 6] (fun m i wr => ∃ k : Nat, k ≤ l.length ∧ i = .int .i64 k ∧ wr.ownsRow w1.heap.size 31 33 m k (((l.take k).map entOf).flatMap entP) ∧ Below w1.heap.size w1 wr) (fun _ i _ => l.length - (intOf i).toNat)
    case atStart => exact ⟨0, Nat.zero_le _, rfl, World.ownsRow_nil _ _ _ _, Below.refl _ _⟩
    case round =>
      obtain ⟨k, hk, rfl, hown, hb⟩ := hrel
      by_cases hlt : k < l.length
      · obtain ⟨b, off, rfl, hr⟩ := at_elem opC OpOk 3 opC_length (hs1.below hb) HOK.out k hlt
        have hok := HOK.out l[k] (List.getElem_mem hlt)
        have hc1 : wr.cell? ⟨b, off + k * 3 + 1, none⟩ = some (.int .u8 l[k].dig) := hr 1 _ rfl
        have hc2 : wr.cell? ⟨b, off + k * 3 + 2, none⟩ = some (.int .i64 l[k].time) := hr 2 _ rfl
        have hbw : b < w1.heap.size := by
          obtain ⟨b', off', hA, hr'⟩ := at_elem opC OpOk 3 opC_length hs1 HOK.out k hlt
          injection hA with hA
          injection hA with hA _
          subst hA
          exact cell_lt (hr' 1 _ rfl)
        have hnb : some b ≠ Value.ownBlock u5 := fun e => by
          have := (hown.lt b e.symm).1
          omega
        have hsnoc : Hid (((l.take k).map entOf).flatMap entP ++ entC (dg l[k].dig) l[k].time = ((l.take (k + 1)).map entOf).flatMap entP) := Lib.hid (by
          rw [List.take_succ_eq_append_getElem hlt, List.map_append, List.flatMap_append]
          simp [entOf, entP])
        have hd := dg_ok l[k].dig hok.dig
        have h32 : (u8s (dg l[k].dig)).length = 32 := by simp [u8s, hd.len]
        have hbuild := build_ent (dg l[k].dig) l[k].time hd.len
        have hent := entC_length hd l[k].time
        have hbuild2 := build_one (dg l[k].dig) l[k].time hd
        have hbuild3 := build_size
        have hone : ∀ u ∈ (entC (dg l[k].dig) l[k].time).toArray.toList, u.oneCell' = true := fun u hu => by
          have := entC_one (dg l[k].dig) l[k].time
          simp only [List.all_toArray, List.all_eq_true] at this
          exact this u (by simpa using hu)
        have hszr := hb.size
        have hi0 : (0 : Int) ≤ k := by omega
        have hi1 : (k : Int) < l.length := by omega
        clear hr
        go_wp2_with fail
        go_region_held3 (fun w' => w'.cell? ⟨b, off + k * 3 + 1, none⟩ = some (.int .u8 l[k].dig) ∧ w'.cell? ⟨b, off + k * 3 + 2, none⟩ = some (.int .i64 l[k].time))
          (first
            | (refine ⟨by assumption, by assumption⟩)
            | (go_split_ands; exact ⟨by assumption, by assumption⟩)
            | (go_split_ands; exact ⟨Below.cell' (by assumption) (by assumption), Below.cell' (by assumption) (by assumption)⟩)
            | (go_split_ands; exact ⟨hgrow.cell (by assumption) hnb, hgrow.cell (by assumption) hnb⟩)
            | go_keep)
          ((first
            | (go_at_call 9; refine (digest_any l[k].dig _ hok.dig).mono ?_; rintro e wN ⟨rfl, hbN⟩; have hsN : wr.heap.size ≤ wN.heap.size := hbN.size; have hoN := own_below hown.drew hbN)
            | (refine stepApp tEnt _ _ (by rfl) (by rfl) (by rfl) (hoN.alloc _) (by rfl) (Sn.new wN (entC (dg l[k].dig) l[k].time).toArray 31 33 1 (by simp [hent])) hone (by unfold maxLen; omega) (by omega) (by simp; omega) ?_; intro v' w3 hown3 hgrow _)))
        all_goals
          rw [List.toList_toArray, hsnoc.out] at hown3
          have hbX : Below w1.heap.size w1 wN := hb.drew.trans (hbN.mono hszr)
          have hb3 : Below w1.heap.size w1 w3 := (hbX.alloc hbX.size (.cells (entC (dg l[k].dig) l[k].time).toArray 31)).grown hgrow (by simp; omega) (fun g hg => (hoN.lt g hg).1)
          clear hgrow hoN hown
          go_wp2_with fail
          exact ⟨⟨k + 1, by omega, by go_num, hown3, hb3⟩, by simp [intOf]; omega⟩
      · obtain rfl : k = l.length := by omega
        rw [List.take_length] at hown
        have HOKE : Hid (∀ p ∈ l.map entOf, EntOk p) := Lib.hid (by
          intro p hp
          obtain ⟨o, ho, rfl⟩ := List.mem_map.1 hp
          exact entOf_ok (HOK.out o ho))
        obtain ⟨E, hE⟩ : ∃ E, E = l.map entOf := ⟨_, rfl⟩
        have hEl : l.length = E.length := by rw [hE, List.length_map]
        rw [← hE] at hown HOKE
        have HOWN := Lib.hid hown
        have hsE := Sn.own hown
        rw [hEl] at hsE
        have HEL := Lib.hid hEl
        have hE200 : E.length ≤ 200 := by omega
        clear hE hEl hown
        go_wp2_with fail
        refine (new_any _ E wr hsE HOKE.out (by omega)).mono ?_
        rintro e w2 ⟨g, b, rfl, hX, hgl, hbl, hb2⟩
        have hown2 := own_below HOWN.out hb2
        rw [HEL.out] at hown2
        have HLT : Hid (∀ x, u5.ownBlock = some x → x < wr.heap.size) := Lib.hid (fun x hx => (HOWN.out.lt x hx).2)
        have hb2' : Below w1.heap.size w1 w2 := hb.trans (hb2.mono hb.size)
        obtain ⟨F, hF⟩ : ∃ F, F = (idxS E).1 := ⟨_, rfl⟩
        obtain ⟨C, hC⟩ : ∃ C, C = (idxS E).2 := ⟨_, rfl⟩
        rw [← hF, ← hC] at hX
        have HFC := Lib.hid (And.intro hF hC)
        clear hF hC hsE
        have HC8 : Hid (c ≤ 255) := Lib.hid hc
        go_wp2_with fail
        go_loopw [8] (fun i wr => ∃ (k : Nat) (E' : List (List Int × Int)), k ≤ E'.length ∧ i = .int .i64 k ∧ E'.Perm E ∧ wr.ownsRow w1.heap.size 31 33 u5 E'.length (E'.flatMap entP) ∧ IX wr g b E.length F C ∧ Below w1.heap.size w1 wr) (fun i _ => E.length - (intOf i).toNat)
        case atStart => exact ⟨0, E, Nat.zero_le _, rfl, List.Perm.refl _, hown2, hX, hb2'⟩
        case round =>
          obtain ⟨k, E', hk', rfl, hperm, hownt, hXt, hbt⟩ := hrel
          have hlE := hperm.length_eq
          have HEN := Lib.hid hlE
          by_cases hlt' : k < E'.length
          · obtain ⟨g0, cap0, e0, hrest⟩ := hownt.form (by omega)
            subst e0
            clear hrest
            obtain ⟨j, hj⟩ : ∃ j, j = (k + c) % E'.length := ⟨_, rfl⟩
            have hjl : j < E'.length := by rw [hj]; exact Nat.mod_lt _ (by omega)
            have e1 : IntKind.i64.wrap ((k : Int) + c) = (k : Int) + c := IntWalk.i64_in _ (by omega)
            have e2 : ((k : Int) + c).tmod E'.length = j := by
              rw [Int.tmod_eq_emod_of_nonneg (by omega), hj, Int.natCast_emod, Int.natCast_add]
            have hn0 : ¬ (E'.length : Int) = 0 := by omega
            obtain ⟨pk, hpk⟩ : ∃ p, p = E'[k] := ⟨_, rfl⟩
            obtain ⟨pj, hpj⟩ : ∃ p, p = E'[j] := ⟨_, rfl⟩
            have hok' : ∀ p ∈ E', EntOk p := fun p hp => HOKE.out p (hperm.mem_iff.1 hp)
            have hkk : EntOk pk := by rw [hpk]; exact hok' _ (List.getElem_mem hlt')
            have hjj : EntOk pj := by rw [hpj]; exact hok' _ (List.getElem_mem hjl)
            have HO1 := Lib.hid (own_set entP EntOk 33 entP_length hownt.drew hok' k hlt' pj hjj)
            have hmem2 : ∀ p ∈ E'.set k pj, EntOk p := fun p hp => by
              rcases List.mem_or_eq_of_mem_set hp with hp | hp
              · exact hok' p hp
              · rw [hp]; exact hjj
            have hlen2 : (E'.set k pj).length = E'.length := List.length_set
            have ho1 := HO1.out.1
            rw [← hlen2] at ho1
            have ho2 := own_set entP EntOk 33 entP_length (L := E'.set k pj) ho1 hmem2 j (by rw [hlen2]; exact hjl) pk hkk
            rw [hlen2] at ho2
            have HO2 := Lib.hid ho2
            have HPM : Hid (((E'.set k pj).set j pk).Perm E) := Lib.hid (by
              rw [hpk, hpj]
              exact (List.set_set_perm hlt' hjl).trans hperm)
            have hrng : ∀ i (hi : i < E'.length), wr.drew.rangeAt g0 (i * 33) (entP E'[i]) := fun i hi => by
              obtain ⟨b', off', hA, hr'⟩ := at_elem entP EntOk 33 entP_length (Sn.own hownt.drew) hok' i hi
              injection hA with hA
              injection hA with h1 h2 _
              subst h1 h2
              intro x u hx
              have := hr' x u hx
              simpa using this
            have HRK : Hid (wr.drew.rangeAt g0 (k * 33) (entP pk)) := Lib.hid (by rw [hpk]; exact hrng k hlt')
            have HRJ : Hid (wr.drew.rangeAt g0 (j * 33) (entP pj)) := Lib.hid (by rw [hpj]; exact hrng j hjl)
            have HIK : Hid ((Try.prog.info? 31).map (·.size) = some (entP pk).length) := Lib.hid (by rw [entP_length pk hkk]; kernel_rfl)
            have HIJ : Hid ((Try.prog.info? 31).map (·.size) = some (entP pj).length) := Lib.hid (by rw [entP_length pj hjj]; kernel_rfl)
            have hg0 := HLT.out g0 rfl
            have HX8 : Hid (IX ((wr.drew.setCells g0 (k * 33) (entP pj)).setCells g0 (j * 33) (entP pk)) g b E.length F C) := Lib.hid (hXt.off
              ((setCells_other (by omega) _ _ _).trans (setCells_other (by omega) _ _ _)) ((setCells_other (by omega) _ _ _).trans (setCells_other (by omega) _ _ _)))
            have HB8 : Hid (Below w1.heap.size w1 ((wr.drew.setCells g0 (k * 33) (entP pj)).setCells g0 (j * 33) (entP pk))) := Lib.hid ((hbt.drew.trans (setCells_below HO1.out.2.2 _ _ _).1).trans (setCells_below HO1.out.2.2 _ _ _).1)
            have hk200 : k < 200 := by omega
            have hkE : k < E.length := by omega
            have hi0 : (0 : Int) ≤ k := by omega
            have hi1 : (k : Int) < E'.length := by omega
            have hj0 : (0 : Int) ≤ j := by omega
            have hj1 : (j : Int) < E'.length := by omega
            clear hmem2 hlen2 ho1 ho2 hrng hpk hpj hj hkk hjj hok' hownt hXt hlE
            go_wp2_with fail
            refine held_start 16 (fun _ => True) (by kernel_rfl) (by kernel_rfl) trivial (fun _ => ?_)
            refine hMove 0 (.tmp 5) (some 55) (.slice (some ⟨g0, 0, none⟩) E'.length cap0) (by kernel_rfl) (by kernel_rfl) (by kernel_rfl) (by kernel_rfl) (by kernel_rfl) (fun _ _ _ h => h) (by exact rfl) trivial ?_; simp only [Act.put, List.setIfInBounds_toArray, List.set_cons_zero, List.set_cons_succ]
            refine hMove 1 (.tmp 8) (some 56) (.int .i64 k) (by kernel_rfl) (by kernel_rfl) (by kernel_rfl) (by kernel_rfl) (by kernel_rfl) (fun _ _ _ h => h) (by exact rfl) trivial ?_; simp only [Act.put, List.setIfInBounds_toArray, List.set_cons_zero, List.set_cons_succ]
            refine hMove 2 (.tmp 5) (some 57) (.slice (some ⟨g0, 0, none⟩) E'.length cap0) (by kernel_rfl) (by kernel_rfl) (by kernel_rfl) (by kernel_rfl) (by kernel_rfl) (fun _ _ _ h => h) (by exact rfl) trivial ?_; simp only [Act.put, List.setIfInBounds_toArray, List.set_cons_zero, List.set_cons_succ]
            refine hMove 3 (.tmp 9) (some 58) (.int .i64 j) (by kernel_rfl) (by kernel_rfl) (by kernel_rfl) (by kernel_rfl) (by kernel_rfl) (fun _ _ _ h => h) (by exact rfl) trivial ?_; simp only [Act.put, List.setIfInBounds_toArray, List.set_cons_zero, List.set_cons_succ]
            refine hMove 4 (.tmp 5) (some 59) (.slice (some ⟨g0, 0, none⟩) E'.length cap0) (by kernel_rfl) (by kernel_rfl) (by kernel_rfl) (by kernel_rfl) (by kernel_rfl) (fun _ _ _ h => h) (by exact rfl) trivial ?_; simp only [Act.put, List.setIfInBounds_toArray, List.set_cons_zero, List.set_cons_succ]
            refine hMove 5 (.tmp 9) (some 60) (.int .i64 j) (by kernel_rfl) (by kernel_rfl) (by kernel_rfl) (by kernel_rfl) (by kernel_rfl) (fun _ _ _ h => h) (by exact rfl) trivial ?_; simp only [Act.put, List.setIfInBounds_toArray, List.set_cons_zero, List.set_cons_succ]
            refine hTake 6 (.indexAddr 24 (.tmp 59) (.tmp 60)) (some 61) (.pointer (some ⟨g0, j * 33, none⟩)) (by kernel_rfl) (by kernel_rfl) (by kernel_rfl) (by kernel_rfl) (by kernel_rfl) (fun _ _ _ h => h) (fun o ho wX hX => by unfold execOp; simp only [ho]; go_simp) trivial ?_; simp only [Act.put, List.setIfInBounds_toArray, List.set_cons_zero, List.set_cons_succ]
            refine hMove 8 (.tmp 5) (some 63) (.slice (some ⟨g0, 0, none⟩) E'.length cap0) (by kernel_rfl) (by kernel_rfl) (by kernel_rfl) (by kernel_rfl) (by kernel_rfl) (fun _ _ _ h => h) (by exact rfl) trivial ?_; simp only [Act.put, List.setIfInBounds_toArray, List.set_cons_zero, List.set_cons_succ]
            refine hMove 9 (.tmp 8) (some 64) (.int .i64 k) (by kernel_rfl) (by kernel_rfl) (by kernel_rfl) (by kernel_rfl) (by kernel_rfl) (fun _ _ _ h => h) (by exact rfl) trivial ?_; simp only [Act.put, List.setIfInBounds_toArray, List.set_cons_zero, List.set_cons_succ]
            refine hTake 10 (.indexAddr 24 (.tmp 63) (.tmp 64)) (some 65) (.pointer (some ⟨g0, k * 33, none⟩)) (by kernel_rfl) (by kernel_rfl) (by kernel_rfl) (by kernel_rfl) (by kernel_rfl) (fun _ _ _ h => h) (fun o ho wX hX => by unfold execOp; simp only [ho]; go_simp) trivial ?_; simp only [Act.put, List.setIfInBounds_toArray, List.set_cons_zero, List.set_cons_succ]
            refine wpAnyH_ready (rs := [7, 11]) (by kernel_rfl) (by simp) ?_
            refine rLoad 7 31 (.tmp 61) (some 62) (cs := entP pj) (by kernel_rfl) (by kernel_rfl) (by exact rfl) HRJ.out Try.underlying31 rfl HIJ.out ?_ ?_
            rotate_left 1
            refine rLoad 11 31 (.tmp 65) (some 66) (cs := entP pk) (by kernel_rfl) (by kernel_rfl) (by exact rfl) HRK.out Try.underlying31 rfl HIK.out ?_ AllReadyH.nil
            rotate_left 1
            all_goals simp only [Act.put, List.setIfInBounds_toArray, List.set_cons_zero, List.set_cons_succ]
            · refine wpAnyH_ready (rs := [11]) (by kernel_rfl) (by simp) ?_
              refine rLoad 11 31 (.tmp 65) (some 66) (cs := entP pk) (by kernel_rfl) (by kernel_rfl) (by exact rfl) HRK.out Try.underlying31 rfl HIK.out ?_ AllReadyH.nil
              simp only [Act.put, List.setIfInBounds_toArray, List.set_cons_zero, List.set_cons_succ]
              refine hTake 12 (.indexAddr 24 (.tmp 55) (.tmp 56)) (some 67) (.pointer (some ⟨g0, k * 33, none⟩)) (by kernel_rfl) (by kernel_rfl) (by kernel_rfl) (by kernel_rfl) (by kernel_rfl) (fun _ _ _ h => h) (fun o ho wX hX => by unfold execOp; simp only [ho]; go_simp) trivial ?_; simp only [Act.put, List.setIfInBounds_toArray, List.set_cons_zero, List.set_cons_succ]
              refine wpAnyH_ready (rs := [13]) (by kernel_rfl) (by simp) ?_
              refine rStore 13 31 (.tmp 67) (.tmp 62) none (cs := entP pj) (by kernel_rfl) (by kernel_rfl) (by exact rfl) (by exact rfl) HO1.out.2.1 HIJ.out (entP_one pj) ?_ AllReadyH.nil
              simp only [Act.put, List.setIfInBounds_toArray, List.set_cons_zero, List.set_cons_succ]
              refine hTake 14 (.indexAddr 24 (.tmp 57) (.tmp 58)) (some 68) (.pointer (some ⟨g0, j * 33, none⟩)) (by kernel_rfl) (by kernel_rfl) (by kernel_rfl) (by kernel_rfl) (by kernel_rfl) (fun _ _ _ h => h) (fun o ho wX hX => by unfold execOp; simp only [ho]; go_simp) trivial ?_; simp only [Act.put, List.setIfInBounds_toArray, List.set_cons_zero, List.set_cons_succ]
              refine wpAnyH_ready (rs := [15]) (by kernel_rfl) (by simp) ?_
              refine rStore 15 31 (.tmp 68) (.tmp 66) none (cs := entP pk) (by kernel_rfl) (by kernel_rfl) (by exact rfl) (by exact rfl) HO2.out.2.1 HIK.out (entP_one pk) ?_ AllReadyH.nil
              simp only [Act.put, List.setIfInBounds_toArray, List.set_cons_zero, List.set_cons_succ]
              refine wpAnyH_done (by kernel_rfl) ?_ _
              obtain ⟨w8, hw8⟩ : ∃ w8, w8 = (wr.drew.setCells g0 (k * 33) (entP pj)).setCells g0 (j * 33) (entP pk) := ⟨_, rfl⟩
              rw [← hw8]
              have hown8 := HO2.out.1
              rw [← hw8] at hown8
              have hX8 := HX8.out
              rw [← hw8] at hX8
              have hb8 := HB8.out
              rw [← hw8] at hb8
              clear hw8
              go_wp2_with fail
              refine ⟨⟨k + 1, (E'.set k pj).set j pk, by rw [List.length_set, List.length_set]; omega, by go_num, HPM.out, hown8, hX8, hb8⟩, by simp [intOf]; omega⟩
            · refine wpAnyH_ready (rs := [7]) (by kernel_rfl) (by simp) ?_
              refine rLoad 7 31 (.tmp 61) (some 62) (cs := entP pj) (by kernel_rfl) (by kernel_rfl) (by exact rfl) HRJ.out Try.underlying31 rfl HIJ.out ?_ AllReadyH.nil
              simp only [Act.put, List.setIfInBounds_toArray, List.set_cons_zero, List.set_cons_succ]
              refine hTake 12 (.indexAddr 24 (.tmp 55) (.tmp 56)) (some 67) (.pointer (some ⟨g0, k * 33, none⟩)) (by kernel_rfl) (by kernel_rfl) (by kernel_rfl) (by kernel_rfl) (by kernel_rfl) (fun _ _ _ h => h) (fun o ho wX hX => by unfold execOp; simp only [ho]; go_simp) trivial ?_; simp only [Act.put, List.setIfInBounds_toArray, List.set_cons_zero, List.set_cons_succ]
              refine wpAnyH_ready (rs := [13]) (by kernel_rfl) (by simp) ?_
              refine rStore 13 31 (.tmp 67) (.tmp 62) none (cs := entP pj) (by kernel_rfl) (by kernel_rfl) (by exact rfl) (by exact rfl) HO1.out.2.1 HIJ.out (entP_one pj) ?_ AllReadyH.nil
              simp only [Act.put, List.setIfInBounds_toArray, List.set_cons_zero, List.set_cons_succ]
              refine hTake 14 (.indexAddr 24 (.tmp 57) (.tmp 58)) (some 68) (.pointer (some ⟨g0, j * 33, none⟩)) (by kernel_rfl) (by kernel_rfl) (by kernel_rfl) (by kernel_rfl) (by kernel_rfl) (fun _ _ _ h => h) (fun o ho wX hX => by unfold execOp; simp only [ho]; go_simp) trivial ?_; simp only [Act.put, List.setIfInBounds_toArray, List.set_cons_zero, List.set_cons_succ]
              refine wpAnyH_ready (rs := [15]) (by kernel_rfl) (by simp) ?_
              refine rStore 15 31 (.tmp 68) (.tmp 66) none (cs := entP pk) (by kernel_rfl) (by kernel_rfl) (by exact rfl) (by exact rfl) HO2.out.2.1 HIK.out (entP_one pk) ?_ AllReadyH.nil
              simp only [Act.put, List.setIfInBounds_toArray, List.set_cons_zero, List.set_cons_succ]
              refine wpAnyH_done (by kernel_rfl) ?_ _
              obtain ⟨w8, hw8⟩ : ∃ w8, w8 = (wr.drew.setCells g0 (k * 33) (entP pj)).setCells g0 (j * 33) (entP pk) := ⟨_, rfl⟩
              rw [← hw8]
              have hown8 := HO2.out.1
              rw [← hw8] at hown8
              have hX8 := HX8.out
              rw [← hw8] at hX8
              have hb8 := HB8.out
              rw [← hw8] at hb8
              clear hw8
              go_wp2_with fail
              refine ⟨⟨k + 1, (E'.set k pj).set j pk, by rw [List.length_set, List.length_set]; omega, by go_num, HPM.out, hown8, hX8, hb8⟩, by simp [intOf]; omega⟩
          · obtain rfl : k = E'.length := by omega
            have hsn' := Sn.own hownt
            have hok' : ∀ p ∈ E', EntOk p := fun p hp => HOKE.out p (hperm.mem_iff.1 hp)
            have HX := Lib.hid hXt
            have HPE := Lib.hid hperm
            have hbW : Below w.heap.size w wr := bstep hb1 hbt
            have hE' : E'.length ≤ 200 := by omega
            clear hlE hownt hXt hperm
            have HSN := Lib.hid hsn'
            obtain ⟨A5, cap5, e5, _, _, _⟩ := hsn'
            subst e5
            go_wp2_with fail
            refine (new_any _ E' wr HSN.out hok' (by omega)).mono ?_
            rintro e w4 ⟨g', b', rfl, hY, hgl', hbl', hb4⟩
            have hX4 := HX.out.keep hb4
            have hbW4 := bstep hbW hb4
            rw [idxS_perm HPE.out, ← HFC.out.1, ← HFC.out.2, HEN.out] at hY
            clear hb4 hbW
            go_wp2_with fail
            refine (live_full g b E.length C F _ w4 hX4 (by omega)).mono ?_
            rintro e w5 ⟨v5, L5, rfl, hs5, hm5, hp5, hb5, HLEN⟩
            have hX5 := hX4.keep hb5
            have hY5 := hY.keep hb5
            have hbW5 := bstep hbW4 hb5
            have HL5 := Lib.hid (Lists.of_live hm5 hp5 hX4.i64)
            have HOK5 : Hid (∀ p ∈ L5, EntOk p) := Lib.hid (fun p hp => ((hm5 p).1 hp).1)
            clear hb5 hm5 hp5 hX4 hY hbW4
            have HS5 := Lib.hid hs5
            clear hs5
            go_wp2_with fail
            refine (live_walk g' b' E.length C F _ w5 hY5 (by omega)).mono ?_
            rintro e w6 ⟨v6, L6, rfl, hs6, hm6, hp6, hb6⟩
            have hX6 := hX5.keep hb6
            have hY6 := hY5.keep hb6
            have hbW6 := bstep hbW5 hb6
            have hs5 := HS5.out.below hb6
            have HL6 := Lib.hid (Lists.of_live hm6 hp6 hX5.i64)
            have HOK6 : Hid (∀ p ∈ L6, EntOk p) := Lib.hid (fun p hp => ((hm6 p).1 hp).1)
            clear hb6 hm6 hp6 hX5 hY5 hbW5
            have h56 : L5 = L6 := HL5.out.eq HL6.out
            have hC1 : C ≤ 1000 := by have := hX6.2.2.le; omega
            have hl5 : L5.length ≤ 1000 := by
              have := HLEN
              omega
            subst h56
            have HS5' := Lib.hid hs5
            have HS6 := Lib.hid hs6
            clear hs5 hs6
            go_wp2_with fail
            refine (same_any _ _ L5 L5 w6 HS5'.out HOK5.out HS6.out HOK5.out hl5 hl5).mono ?_
            rintro e w7 ⟨rfl, hb7⟩
            have hX7 := hX6.keep hb7
            have hY7 := hY6.keep hb7
            have hbW7 := bstep hbW6 hb7
            clear hX6 hY6 hb7 hbW6
            rw [decide_eq_true rfl]
            go_wp2_with fail
            refine (count_any g b E.length C F w7 hX7).mono ?_
            rintro e w8 ⟨rfl, rfl⟩
            go_wp2_with fail
            refine (count_any g' b' E.length C F w7 hY7).mono ?_
            rintro e w9 ⟨rfl, rfl⟩
            go_wp2_with fail
            go_ret
            exact ⟨rfl, hbW7⟩
end Go.Proofs.Ytlhehnghplchfaa
