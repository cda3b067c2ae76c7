/- The law IndexDrops: its walk. -/
import Derived.Test.YtlhehnghplchfaaAwake20
import Derived.Test.YtlhehnghplchfaaOps20
namespace Go.Proofs.Ytlhehnghplchfaa
open Go.RowKit

set_option maxRecDepth 100000 in
set_option maxHeartbeats 4000000 in
theorem drops_any (va : Value) (l : List OpD) (now : Int) (c : Nat) (w : World) (hs : Sn w 3 va l.length (l.flatMap opC)) (hok : ∀ o ∈ l, OpOk o) (hc : c ≤ 255) :
    Calls Try.prog 6 #[va, .int .i64 now, .int .u8 c] w fun e w' => e = .returned (.bool true) ∧ Below w.heap.size w w' := by
  obtain ⟨A, cap, rfl, hcap, _, _⟩ := id hs
  have HS := Lib.hid hs
  have HOK := Lib.hid hok
  clear hs hok
  rcases Bool.eq_false_or_eq_true (decide ((200 : Int) < l.length)) with d1 | d1
  · go_enter Try.func6, Try.ntmps6
    go_wp2_with fail
    refine (awake_any w).mono ?_
    rintro e w1 ⟨rfl, hb1⟩
    go_wp2_with fail
    refine (awake_any w1).mono ?_
    rintro e w2 ⟨rfl, hb2⟩
    go_wp2_with fail
    go_ret
    exact ⟨rfl, bstep hb1 hb2⟩
  · have hl : l.length ≤ 200 := by have := of_decide_eq_false d1; omega
    go_enter Try.func6, Try.ntmps6
    go_wp2_with fail
    refine (awake_any w).mono ?_
    rintro e w1 ⟨rfl, hb1⟩
    have hs1 := HS.out.below hb1
    go_wp2_with fail
    have hb1s := hb1.size
    go_loopw [7, 8] (fun m i wr => ∃ k : Nat, k ≤ l.length ∧ i = .int .i64 k ∧ wr.ownsRow w1.heap.size 31 33 m k (((l.take k).map entOf).flatMap entP) ∧ Below w1.heap.size w1 wr) (fun _ i _ => l.length - (intOf i).toNat)
    case atStart => exact ⟨0, Nat.zero_le _, rfl, World.ownsRow_nil _ _ _ _, Below.refl _ _⟩
    case round =>
      obtain ⟨k, hk, rfl, hown, hb⟩ := hrel
      by_cases hlt : k < l.length
      · obtain ⟨b, off, rfl, hr⟩ := at_elem opC OpOk 3 opC_length (hs1.below hb) HOK.out k hlt
        have hok := HOK.out l[k] (List.getElem_mem hlt)
        have hc1 : wr.cell? ⟨b, off + k * 3 + 1, none⟩ = some (.int .u8 l[k].dig) := hr 1 _ rfl
        have hc2 : wr.cell? ⟨b, off + k * 3 + 2, none⟩ = some (.int .i64 l[k].time) := hr 2 _ rfl
        have hbw : b < w1.heap.size := by
          obtain ⟨b', off', hA, hr'⟩ := at_elem opC OpOk 3 opC_length hs1 HOK.out k hlt
          injection hA with hA
          injection hA with hA _
          subst hA
          exact cell_lt (hr' 1 _ rfl)
        have hnb : some b ≠ Value.ownBlock u7 := fun e => by
          have := (hown.lt b e.symm).1
          omega
        have hsnoc : Hid (((l.take k).map entOf).flatMap entP ++ entC (dg l[k].dig) l[k].time = ((l.take (k + 1)).map entOf).flatMap entP) := Lib.hid (by
          rw [List.take_succ_eq_append_getElem hlt, List.map_append, List.flatMap_append]
          simp [entOf, entP])
        have hd := dg_ok l[k].dig hok.dig
        have h32 : (u8s (dg l[k].dig)).length = 32 := by simp [u8s, hd.len]
        have hbuild := build_ent (dg l[k].dig) l[k].time hd.len
        have hent := entC_length hd l[k].time
        have hbuild2 := build_one (dg l[k].dig) l[k].time hd
        have hbuild3 := build_size
        have hone : ∀ u ∈ (entC (dg l[k].dig) l[k].time).toArray.toList, u.oneCell' = true := fun u hu => by
          have := entC_one (dg l[k].dig) l[k].time
          simp only [List.all_toArray, List.all_eq_true] at this
          exact this u (by simpa using hu)
        have hszr := hb.size
        have hi0 : (0 : Int) ≤ k := by omega
        have hi1 : (k : Int) < l.length := by omega
        clear hr
        go_wp2_with fail
        go_region_held3 (fun w' => w'.cell? ⟨b, off + k * 3 + 1, none⟩ = some (.int .u8 l[k].dig) ∧ w'.cell? ⟨b, off + k * 3 + 2, none⟩ = some (.int .i64 l[k].time))
          (first
            | (refine ⟨by assumption, by assumption⟩)
            | (go_split_ands; exact ⟨by assumption, by assumption⟩)
            | (go_split_ands; exact ⟨Below.cell' (by assumption) (by assumption), Below.cell' (by assumption) (by assumption)⟩)
            | (go_split_ands; exact ⟨hgrow.cell (by assumption) hnb, hgrow.cell (by assumption) hnb⟩)
            | go_keep)
          ((first
            | (go_at_call 9; refine (digest_any l[k].dig _ hok.dig).mono ?_; rintro e wN ⟨rfl, hbN⟩; have hsN : wr.heap.size ≤ wN.heap.size := hbN.size; have hoN := own_below hown.drew hbN)
            | (refine stepApp tEnt _ _ (by rfl) (by rfl) (by rfl) (hoN.alloc _) (by rfl) (Sn.new wN (entC (dg l[k].dig) l[k].time).toArray 31 33 1 (by simp [hent])) hone (by unfold maxLen; omega) (by omega) (by simp; omega) ?_; intro v' w3 hown3 hgrow _)))
        all_goals
          rw [List.toList_toArray, hsnoc.out] at hown3
          have hbX : Below w1.heap.size w1 wN := hb.drew.trans (hbN.mono hszr)
          have hb3 : Below w1.heap.size w1 w3 := (hbX.alloc hbX.size (.cells (entC (dg l[k].dig) l[k].time).toArray 31)).grown hgrow (by simp; omega) (fun g hg => (hoN.lt g hg).1)
          clear hgrow hoN hown
          go_wp2_with fail
          exact ⟨⟨k + 1, by omega, by go_num, hown3, hb3⟩, by simp [intOf]; omega⟩
      · obtain rfl : k = l.length := by omega
        rw [List.take_length] at hown
        have HOKE : Hid (∀ p ∈ l.map entOf, EntOk p) := Lib.hid (by
          intro p hp
          obtain ⟨o, ho, rfl⟩ := List.mem_map.1 hp
          exact entOf_ok (HOK.out o ho))
        obtain ⟨E, hE⟩ : ∃ E, E = l.map entOf := ⟨_, rfl⟩
        have hEl : l.length = E.length := by rw [hE, List.length_map]
        rw [← hE] at hown HOKE
        have hsE := Sn.own hown
        rw [hEl] at hsE
        have HEL := Lib.hid hEl
        have hE200 : E.length ≤ 200 := by omega
        clear hE hEl hown
        go_wp2_with fail
        refine (new_any _ E wr hsE HOKE.out (by omega)).mono ?_
        rintro e w2 ⟨g, b, rfl, hX, hgl, hbl, hb2⟩
        go_wp2_with fail
        have hbw2 : Below w.heap.size w w2 := bstep (hb1.trans (hb.mono hb1s)) hb2
        have hsr := hb.size
        obtain ⟨F, hF⟩ : ∃ F, F = (idxS E).1 := ⟨_, rfl⟩
        obtain ⟨C, hC⟩ : ∃ C, C = (idxS E).2 := ⟨_, rfl⟩
        rw [← hF, ← hC] at hX
        clear hF hC hb1 hb hb2 hs1 hsE
        have hdc := dg_ok c hc
        have hCn := hX.2.2.le
        refine (digest_any c w2 hc).mono ?_
        rintro e w3 ⟨rfl, hb3⟩
        have hX3 := hX.keep hb3
        have hbw3 := bstep hbw2 hb3
        clear hX hb3 hbw2
        have h32 : (u8s (dg c)).length = 32 := by simp [u8s, hdc.len]
        go_wp2_with fail
        refine (get_any g b E.length C F (dg c) w3 hX3 hdc).mono ?_
        rintro e w4 ⟨rfl, hb4⟩
        have hX4 := hX3.keep hb4
        have hbw4 := bstep hbw3 hb4
        clear hX3 hb4 hbw3
        go_wp2_with fail
        refine (count_any g b E.length C F w4 hX4).mono ?_
        rintro e w5 ⟨rfl, rfl⟩
        go_wp2_with fail
        refine (drop_any g b E.length C F now w4 hX4 (by omega)).mono ?_
        rintro e w6 ⟨k, c', rfl, hkc, hX6, hoff⟩
        have hbw6 : Below w.heap.size w w6 := hbw4.trans (hoff.below (by omega) hbw4.size)
        clear hX4 hoff hbw4
        go_wp2_with fail
        refine (digest_any c w6 hc).mono ?_
        rintro e w7 ⟨rfl, hb7⟩
        have hX7 := hX6.keep hb7
        have hbw7 := bstep hbw6 hb7
        clear hX6 hb7 hbw6
        go_wp2_with fail
        refine (get_any g b E.length c' (liveF F now) (dg c) w7 hX7 hdc).mono ?_
        rintro e w8 ⟨rfl, hb8⟩
        have hX8 := hX7.keep hb8
        have hbw8 := bstep hbw7 hb8
        clear hX7 hb8 hbw7
        have e1 : IntKind.i64.wrap ((k : Int) + c') = C := by rw [IntWalk.i64_in _ (by omega)]; omega
        have hcase : F (dg c) = none ∧ liveF F now (dg c) = none ∨ ∃ t, F (dg c) = some t ∧ (t < now ∧ liveF F now (dg c) = none ∨ now ≤ t ∧ liveF F now (dg c) = some t) := by
          unfold liveF
          cases h : F (dg c) with
          | none => exact .inl ⟨rfl, rfl⟩
          | some t =>
            refine .inr ⟨t, rfl, ?_⟩
            by_cases ht : t < now
            · exact .inl ⟨ht, by simp [ht]⟩
            · exact .inr ⟨by omega, by simp [ht]⟩
        clear hkc
        rcases hcase with ⟨f1, f2⟩ | ⟨t, f1, ⟨ht, f2⟩ | ⟨ht, f2⟩⟩
        all_goals rw [f1, f2]
        all_goals clear f1 f2
        · go_wp2_with fail
          refine (count_any g b E.length c' (liveF F now) w8 hX8).mono ?_
          rintro e w9 ⟨rfl, rfl⟩
          go_wp2_with fail
          go_ret
          exact ⟨rfl, hbw8⟩
        · have t1 : decide (now ≤ t) = false := by simp; omega
          go_wp2_with fail
          refine (count_any g b E.length c' (liveF F now) w8 hX8).mono ?_
          rintro e w9 ⟨rfl, rfl⟩
          go_wp2_with fail
          go_ret
          exact ⟨rfl, hbw8⟩
        · have t1 : decide (now ≤ t) = true := by simp; omega
          go_wp2_with fail
          refine (count_any g b E.length c' (liveF F now) w8 hX8).mono ?_
          rintro e w9 ⟨rfl, rfl⟩
          go_wp2_with fail
          go_ret
          exact ⟨rfl, hbw8⟩
end Go.Proofs.Ytlhehnghplchfaa
