/- The law IndexLive: its walk. -/
import Derived.Test.YtlhehnghplchfaaAwake20
import Derived.Test.YtlhehnghplchfaaOps20
import Derived.Test.YtlhehnghplchfaaSame
import Derived.Test.YtlhehnghplchfaaPerm
import Derived.Test.YtlhehnghplchfaaCount
import Derived.Test.YtlhehnghplchfaaRefOf
import Derived.Test.YtlhehnghplchfaaOffs
import Derived.Test.YtlhehnghplchfaaLaw20c
namespace Go.Proofs.Ytlhehnghplchfaa
open Go.RowKit

set_option maxRecDepth 100000 in
set_option maxHeartbeats 4000000 in
theorem index_live_any (va : Value) (l : List OpD) (now : Int) (c : Nat) (w : World) (hs : Sn w 3 va l.length (l.flatMap opC)) (hok : ∀ o ∈ l, OpOk o) (hc : c ≤ 255) (hnow : isI64 now) :
    Calls Try.prog 3 #[va, .int .i64 now, .int .u8 c] w fun e w' => e = .returned (.bool true) ∧ Below w.heap.size w w' := by
  obtain ⟨A, cap, rfl, hcap, _, _⟩ := id hs
  have HS := Lib.hid hs
  have HOK := Lib.hid hok
  clear hs hok
  have hcase : decide ((200 : Int) < l.length) = true ∨ decide ((200 : Int) < l.length) = false ∧ decide (9000000000000000000 < now) = true ∨ decide ((200 : Int) < l.length) = false ∧ decide (9000000000000000000 < now) = false := by
    cases decide ((200 : Int) < l.length) <;> cases decide (9000000000000000000 < now) <;> simp
  rcases hcase with d1 | ⟨d1, d2⟩ | ⟨d1, d2⟩
  · go_enter Try.func3, Try.ntmps3
    go_wp2_with fail
    refine (awake_any w).mono ?_
    rintro e w1 ⟨rfl, hb1⟩
    go_wp2_with fail
    refine (awake_any w1).mono ?_
    rintro e w2 ⟨rfl, hb2⟩
    go_wp2_with fail
    go_ret
    exact ⟨rfl, bstep hb1 hb2⟩
  · go_enter Try.func3, Try.ntmps3
    go_wp2_with fail
    refine (awake_any w).mono ?_
    rintro e w1 ⟨rfl, hb1⟩
    go_wp2_with fail
    refine (awake_any w1).mono ?_
    rintro e w2 ⟨rfl, hb2⟩
    go_wp2_with fail
    go_ret
    exact ⟨rfl, bstep hb1 hb2⟩
  · have hl : l.length ≤ 200 := by have := of_decide_eq_false d1; omega
    have hn9 : now ≤ 9000000000000000000 := by have := of_decide_eq_false d2; omega
    go_enter Try.func3, Try.ntmps3
    go_wp2_with fail
    refine (awake_any w).mono ?_
    rintro e w1 ⟨rfl, hb1⟩
    have hs1 := HS.out.below hb1
    go_wp2_with fail
    have hb1s := hb1.size
    have HNOW := Lib.hid (And.intro hnow hn9)
    clear hnow hn9 d2
    go_loopw [7, 8] (fun m i wr => ∃ k : Nat, k ≤ l.length ∧ i = .int .i64 k ∧ wr.ownsRow w1.heap.size 31 33 m k (((l.take k).map entOf).flatMap entP) ∧ Below w1.heap.size w1 wr) (fun _ i _ => l.length - (intOf i).toNat)
    case atStart => exact ⟨0, Nat.zero_le _, rfl, World.ownsRow_nil _ _ _ _, Below.refl _ _⟩
    case round =>
      obtain ⟨k, hk, rfl, hown, hb⟩ := hrel
      by_cases hlt : k < l.length
      · obtain ⟨b, off, rfl, hr⟩ := at_elem opC OpOk 3 opC_length (hs1.below hb) HOK.out k hlt
        have hok := HOK.out l[k] (List.getElem_mem hlt)
        have hc1 : wr.cell? ⟨b, off + k * 3 + 1, none⟩ = some (.int .u8 l[k].dig) := hr 1 _ rfl
        have hc2 : wr.cell? ⟨b, off + k * 3 + 2, none⟩ = some (.int .i64 l[k].time) := hr 2 _ rfl
        have hbw : b < w1.heap.size := by
          obtain ⟨b', off', hA, hr'⟩ := at_elem opC OpOk 3 opC_length hs1 HOK.out k hlt
          injection hA with hA
          injection hA with hA _
          subst hA
          exact cell_lt (hr' 1 _ rfl)
        have hnb : some b ≠ Value.ownBlock u7 := fun e => by
          have := (hown.lt b e.symm).1
          omega
        have hsnoc : Hid (((l.take k).map entOf).flatMap entP ++ entC (dg l[k].dig) l[k].time = ((l.take (k + 1)).map entOf).flatMap entP) := Lib.hid (by
          rw [List.take_succ_eq_append_getElem hlt, List.map_append, List.flatMap_append]
          simp [entOf, entP])
        have hd := dg_ok l[k].dig hok.dig
        have h32 : (u8s (dg l[k].dig)).length = 32 := by simp [u8s, hd.len]
        have hbuild := build_ent (dg l[k].dig) l[k].time hd.len
        have hent := entC_length hd l[k].time
        have hbuild2 := build_one (dg l[k].dig) l[k].time hd
        have hbuild3 := build_size
        have hone : ∀ u ∈ (entC (dg l[k].dig) l[k].time).toArray.toList, u.oneCell' = true := fun u hu => by
          have := entC_one (dg l[k].dig) l[k].time
          simp only [List.all_toArray, List.all_eq_true] at this
          exact this u (by simpa using hu)
        have hszr := hb.size
        have hi0 : (0 : Int) ≤ k := by omega
        have hi1 : (k : Int) < l.length := by omega
        clear hr
        go_wp2_with fail
        go_region_held3 (fun w' => w'.cell? ⟨b, off + k * 3 + 1, none⟩ = some (.int .u8 l[k].dig) ∧ w'.cell? ⟨b, off + k * 3 + 2, none⟩ = some (.int .i64 l[k].time))
          (first
            | (refine ⟨by assumption, by assumption⟩)
            | (go_split_ands; exact ⟨by assumption, by assumption⟩)
            | (go_split_ands; exact ⟨Below.cell' (by assumption) (by assumption), Below.cell' (by assumption) (by assumption)⟩)
            | (go_split_ands; exact ⟨hgrow.cell (by assumption) hnb, hgrow.cell (by assumption) hnb⟩)
            | go_keep)
          ((first
            | (go_at_call 9; refine (digest_any l[k].dig _ hok.dig).mono ?_; rintro e wN ⟨rfl, hbN⟩; have hsN : wr.heap.size ≤ wN.heap.size := hbN.size; have hoN := own_below hown.drew hbN)
            | (refine stepApp tEnt _ _ (by rfl) (by rfl) (by rfl) (hoN.alloc _) (by rfl) (Sn.new wN (entC (dg l[k].dig) l[k].time).toArray 31 33 1 (by simp [hent])) hone (by unfold maxLen; omega) (by omega) (by simp; omega) ?_; intro v' w3 hown3 hgrow _)))
        all_goals
          rw [List.toList_toArray, hsnoc.out] at hown3
          have hbX : Below w1.heap.size w1 wN := hb.drew.trans (hbN.mono hszr)
          have hb3 : Below w1.heap.size w1 w3 := (hbX.alloc hbX.size (.cells (entC (dg l[k].dig) l[k].time).toArray 31)).grown hgrow (by simp; omega) (fun g hg => (hoN.lt g hg).1)
          clear hgrow hoN hown
          go_wp2_with fail
          exact ⟨⟨k + 1, by omega, by go_num, hown3, hb3⟩, by simp [intOf]; omega⟩
      · obtain rfl : k = l.length := by omega
        rw [List.take_length] at hown
        have HOKE : Hid (∀ p ∈ l.map entOf, EntOk p) := Lib.hid (by
          intro p hp
          obtain ⟨o, ho, rfl⟩ := List.mem_map.1 hp
          exact entOf_ok (HOK.out o ho))
        obtain ⟨E, hE⟩ : ∃ E, E = l.map entOf := ⟨_, rfl⟩
        have hEl : l.length = E.length := by rw [hE, List.length_map]
        rw [← hE] at hown HOKE
        have HOWN := Lib.hid hown
        have hsE := Sn.own hown
        rw [hEl] at hsE
        have hE200 : E.length ≤ 200 := by omega
        clear hE hEl hown
        have HSE := Lib.hid hsE
        clear hsE
        go_wp2_with fail
        refine (new_any _ E wr HSE.out HOKE.out (by omega)).mono ?_
        rintro e w2 ⟨g, b, rfl, hX, hgl, hbl, hb2⟩
        have hs2 := HSE.out.below hb2
        have HS2 := Lib.hid hs2
        have hbW2 : Below w.heap.size w w2 := bstep hb1 (hb.trans (hb2.mono hb.size))
        have HLW0 := refOf_ok E HOKE.out
        have HOKW := Lib.hid (refOf_mem E HOKE.out)
        have hWl := refOf_len E
        obtain ⟨W, hW⟩ : ∃ W, W = refOf E := ⟨_, rfl⟩
        have HWE := Lib.hid hW
        rw [← hW] at HLW0 HOKW hWl
        obtain ⟨F, hF⟩ : ∃ F, F = (idxS E).1 := ⟨_, rfl⟩
        obtain ⟨C, hC⟩ : ∃ C, C = (idxS E).2 := ⟨_, rfl⟩
        rw [← hF, ← hC] at hX
        rw [← hF] at HLW0
        have HLW := Lib.hid HLW0
        have HC8 : Hid (c ≤ 255) := Lib.hid hc
        have HGB : w.heap.size ≤ b := by have := hb.size; omega
        have hle : now ≤ now + c := by omega
        obtain ⟨later, hlat⟩ : ∃ later, later = now + (c : Int) := ⟨_, rfl⟩
        rw [← hlat] at hle
        have e2 : wrap64 (now + (c : Int)) = later := by rw [hlat]; have h1 := HNOW.out.1; have h2 := HNOW.out.2; unfold isI64 at h1; unfold wrap64; omega
        have HLE := Lib.hid hle
        clear hF hC hs2 hb hb2 hgl hbl HLW0 hW hle hlat
        go_wp2_with fail
        refine (ref_of_any _ E w2 HS2.out HOKE.out (by omega)).mono ?_
        rintro e w3 ⟨v3, rfl, hs3, hb3⟩
        rw [← HWE.out] at hs3
        have hX3 := hX.keep hb3
        have hbW3 := bstep hbW2 hb3
        have HS3 := Lib.hid hs3
        clear hX hbW2 hb3 hs3
        go_wp2_with fail
        refine (live_full g b E.length C F now w3 hX3 (by omega)).mono ?_
        rintro e w4 ⟨v4, L1, rfl, hs4, hm4, hp4, hb4, HLEN⟩
        have HL1 := Lib.hid (Lists.of_live hm4 hp4 hX3.i64)
        have HOK1 : Hid (∀ p ∈ L1, EntOk p) := Lib.hid (fun p hp => ((hm4 p).1 hp).1)
        have hX4 := hX3.keep hb4
        have hbW4 := bstep hbW3 hb4
        have hs3 := HS3.out.below hb4
        have HS3 := Lib.hid hs3
        have HS4 := Lib.hid hs4
        clear hX3 hbW3 hb4 hs3 hs4 hm4 hp4
        go_wp2_with fail
        refine (live_full g b E.length C F later w4 hX4 (by omega)).mono ?_
        rintro e w5 ⟨v5, L2, rfl, hs5, hm5, hp5, hb5, HLEN2⟩
        have HL2 := Lib.hid (Lists.of_live hm5 hp5 hX4.i64)
        have HOK2 : Hid (∀ p ∈ L2, EntOk p) := Lib.hid (fun p hp => ((hm5 p).1 hp).1)
        have hX5 := hX4.keep hb5
        have hbW5 := bstep hbW4 hb5
        have hs3 := HS3.out.below hb5
        have HS3 := Lib.hid hs3
        have hs4 := HS4.out.below hb5
        have HS4 := Lib.hid hs4
        have HS5 := Lib.hid hs5
        clear hX4 hbW4 hb5 hs3 hs4 hs5 hm5 hp5
        have q1 : liveL W now = L1 := (HLW.out.live now).eq HL1.out
        have q2 : liveL W later = L2 := (HLW.out.live later).eq HL2.out
        have Q1 := Lib.hid q1
        have Q2 := Lib.hid q2
        have hC1 : C ≤ 1000 := by have := hX5.2.2.le; omega
        clear q1 q2
        go_wp2_with fail
        refine (ref_live_any _ W now w5 HS3.out HOKW.out (by omega)).mono ?_
        rintro e w6 ⟨v6, rfl, hs6, hb6⟩
        rw [Q1.out] at hs6
        have hX6 := hX5.keep hb6
        have hbW6 := bstep hbW5 hb6
        have HS3' := Lib.hid (HS3.out.below hb6)
        have HS4' := Lib.hid (HS4.out.below hb6)
        have HS5' := Lib.hid (HS5.out.below hb6)
        have HS6 := Lib.hid hs6
        clear hX5 hbW5 hb6 hs6 HS3 HS4 HS5
        go_wp2_with fail
        refine (same_any _ _ L1 L1 w6 HS4'.out HOK1.out HS6.out HOK1.out (by omega) (by omega)).mono ?_
        rintro e w7 ⟨rfl, hb7⟩
        rw [decide_eq_true rfl]
        have hX7 := hX6.keep hb7
        have hbW7 := bstep hbW6 hb7
        have HS3 := Lib.hid (HS3'.out.below hb7)
        have HS4 := Lib.hid (HS4'.out.below hb7)
        have HS5 := Lib.hid (HS5'.out.below hb7)
        clear hX6 hbW6 hb7 HS3' HS4' HS5' HS6
        go_wp2_with fail
        refine (ref_live_any _ W later w7 HS3.out HOKW.out (by omega)).mono ?_
        rintro e w8 ⟨v8, rfl, hs8, hb8⟩
        rw [Q2.out] at hs8
        have hX8 := hX7.keep hb8
        have hbW8 := bstep hbW7 hb8
        have HS4' := Lib.hid (HS4.out.below hb8)
        have HS5' := Lib.hid (HS5.out.below hb8)
        have HS8 := Lib.hid hs8
        clear hX7 hbW7 hb8 hs8 HS3 HS4 HS5
        go_wp2_with fail
        refine (same_any _ _ L2 L2 w8 HS5'.out HOK2.out HS8.out HOK2.out (by omega) (by omega)).mono ?_
        rintro e w9 ⟨rfl, hb9⟩
        rw [decide_eq_true rfl]
        have hX9 := hX8.keep hb9
        have hbW9 := bstep hbW8 hb9
        have HS4 := Lib.hid (HS4'.out.below hb9)
        have HS5 := Lib.hid (HS5'.out.below hb9)
        clear hX8 hbW8 hb9 HS4' HS5' HS8
        go_wp2_with fail
        refine (drop_any g b E.length C F now w9 hX9 (by omega)).mono ?_
        rintro e w10 ⟨kd, c', rfl, hkc, hX10, hoff⟩
        have HS4' := Lib.hid (HS4.out.off hX9.2.2 hoff)
        have HS5' := Lib.hid (HS5.out.off hX9.2.2 hoff)
        have hbW10 : Below w.heap.size w w10 := hbW9.trans (hoff.below (by have := HGB; omega) hbW9.size)
        obtain rfl : c' = L1.length := HL1.out.count hX10.2.2
        clear hX9 hbW9 hoff HS4 HS5 hkc
        obtain ⟨A4, cap4, e4, _, _, _⟩ := id HS4'.out
        subst e4
        have HWD : Hid (Below w.heap.size w w10) := Lib.hid hbW10
        clear hbW10
        go_wp2_with fail
        go_loopw [14] (fun i wr => ∃ k : Nat, k ≤ L1.length ∧ i = .int .i64 k ∧ Below w10.heap.size w10 wr) (fun i _ => L1.length - (intOf i).toNat)
        case atStart => exact ⟨0, Nat.zero_le _, rfl, Below.refl _ _⟩
        case round =>
          obtain ⟨k, hk, rfl, hbr⟩ := hrel
          have hXr := hX10.keep hbr
          have hsr := HS4'.out.below hbr
          by_cases hlt : k < L1.length
          · obtain ⟨b1, off1, rfl, hr⟩ := at_elem entP EntOk 33 entP_length hsr HOK1.out k hlt
            replace hr : wr.rangeAt b1 (off1 + k * 33) (entP L1[k]) := hr
            have hpk := HOK1.out L1[k] (List.getElem_mem hlt)
            have hfk := ((HL1.out.mem L1[k]).1 (List.getElem_mem hlt)).2
            have hnk : now ≤ L1[k].2 := by
              unfold liveF at hfk
              cases hFd : F L1[k].1 with
              | none => rw [hFd] at hfk; cases hfk
              | some t =>
                rw [hFd] at hfk
                simp only at hfk
                split at hfk
                · cases hfk
                · injection hfk with hfk; omega
            have HFK := Lib.hid hfk
            have HR := Lib.hid (ent_parts hr hpk).1
            have HNK : Hid (decide (now ≤ L1[k].2) = true) := Lib.hid (decide_eq_true hnk)
            have h32 : (u8s L1[k].1).length = 32 := by simp [u8s, hpk.dig.len]
            have hi0 : (0 : Int) ≤ k := by omega
            have hi1 : (k : Int) < L1.length := by omega
            clear hr hfk hnk
            go_wp2_with (refine ld 26 _ rfl rfl rfl HR.out Try.underlying26 rfl (by rw [h32]; kernel_rfl) ?_)
            refine (has_any g b E.length L1.length (liveF F now) L1[k].1 now wr hXr hpk.dig).mono ?_
            rintro e w12 ⟨rfl, hb12⟩
            rw [HFK.out, Option.isSome_some, Option.getD_some, HNK.out]
            go_wp2_with fail
            exact ⟨⟨k + 1, by omega, by go_num, bstep hbr hb12⟩, by simp [intOf]; omega⟩
          · obtain rfl : k = L1.length := by omega
            have HS5 := Lib.hid (HS5'.out.below hbr)
            have HS4 := Lib.hid hsr
            have hbWr : Below w.heap.size w wr := HWD.out.trans (hbr.mono HWD.out.size)
            clear hbr hsr
            go_wp2_with fail
            refine (live_full g b E.length L1.length (liveF F now) now wr hXr (by omega)).mono ?_
            rintro e w12 ⟨v12, L3, rfl, hs12, hm12, hp12, hb12, _⟩
            have HOK3 : Hid (∀ p ∈ L3, EntOk p) := Lib.hid (fun p hp => ((hm12 p).1 hp).1)
            have q3 : L3 = L1 := by
              have := Lists.of_live hm12 hp12 hXr.i64
              rw [liveF_live F (Int.le_refl now)] at this
              exact this.eq HL1.out
            subst q3
            have hX12 := hXr.keep hb12
            have hbW12 := bstep hbWr hb12
            have HS4' := Lib.hid (HS4.out.below hb12)
            have HS5' := Lib.hid (HS5.out.below hb12)
            have HS12 := Lib.hid hs12
            clear hs12 hm12 hp12 hXr hbWr hb12 HS4 HS5
            go_wp2_with fail
            refine (same_any _ _ L3 L3 w12 HS12.out HOK3.out HS4'.out HOK3.out (by omega) (by omega)).mono ?_
            rintro e w13 ⟨rfl, hb13⟩
            rw [decide_eq_true rfl]
            have hX13 := hX12.keep hb13
            have hbW13 := bstep hbW12 hb13
            have HS5 := Lib.hid (HS5'.out.below hb13)
            clear hX12 hbW12 hb13 HS4' HS5' HS12
            go_wp2_with fail
            refine (live_full g b E.length L3.length (liveF F now) later w13 hX13 (by omega)).mono ?_
            rintro e w14 ⟨v14, L4, rfl, hs14, hm14, hp14, hb14, _⟩
            have HOK4 : Hid (∀ p ∈ L4, EntOk p) := Lib.hid (fun p hp => ((hm14 p).1 hp).1)
            have q4 : L4 = L2 := by
              have := Lists.of_live hm14 hp14 hX13.i64
              rw [liveF_live F HLE.out] at this
              exact this.eq HL2.out
            subst q4
            have hX14 := hX13.keep hb14
            have hbW14 := bstep hbW13 hb14
            have HS5' := Lib.hid (HS5.out.below hb14)
            have HS14 := Lib.hid hs14
            clear hs14 hm14 hp14 hX13 hbW13 hb14 HS5
            go_wp2_with fail
            refine (same_any _ _ L4 L4 w14 HS14.out HOK4.out HS5'.out HOK4.out (by omega) (by omega)).mono ?_
            rintro e w15 ⟨rfl, hb15⟩
            rw [decide_eq_true rfl]
            have hX15 := hX14.keep hb15
            have hbW15 := bstep hbW14 hb15
            clear hX14 hbW14 hb15 HS5' HS14
            go_wp2_with fail
            refine (count_any g b E.length L3.length (liveF F now) w15 hX15).mono ?_
            rintro e w16 ⟨rfl, rfl⟩
            go_wp2_with fail
            go_ret
            exact ⟨rfl, hbW15⟩
end Go.Proofs.Ytlhehnghplchfaa
