/- The law IndexMatchesReference: its walk. -/
import Derived.Test.YtlhehnghplchfaaLaw20d
import Derived.Test.YtlhehnghplchfaaContains
namespace Go.Proofs.Ytlhehnghplchfaa
open Go.RowKit
attribute [local irreducible] wpAnyH wpQuiet
set_option linter.unusedSimpArgs false

/-- What stands while a round's last region runs. -/
structure MS (g b n C : Nat) (F : List Int → Option Int) (vW : Value) (W : List (List Int × Int)) (dB : Nat) (d : List Int) (b0 ot : Nat) (tm : Int) (w0 w : World) : Prop where
  ix : IX w g b n F C
  sn : Sn w 33 vW W.length (W.flatMap entP)
  dig : w.rangeAt dB 0 (u8s d)
  tm : w.cell? ⟨b0, ot, none⟩ = some (.int .i64 tm)
  bel : Below w0.heap.size w0 w
theorem MS.keep {g b n C : Nat} {F : List Int → Option Int} {vW : Value} {W : List (List Int × Int)} {dB : Nat} {d : List Int} {b0 ot : Nat} {tm : Int} {w0 w w' : World} (h : MS g b n C F vW W dB d b0 ot tm w0 w) (hb : Below w.heap.size w w') : MS g b n C F vW W dB d b0 ot tm w0 w' :=
  ⟨h.ix.keep hb, h.sn.below hb, fun j u hj => Below.cell' hb (h.dig j u hj), Below.cell' hb h.tm, bstep h.bel hb⟩
theorem st_new (w : World) (cs : List Value) (hl : cs.length = 33) :
    (w.alloc (.cells (entC (List.replicate 32 0) 0).toArray 31)).there w.heap.size 0 cs.length ∧ Below w.heap.size w ((w.alloc (.cells (entC (List.replicate 32 0) 0).toArray 31)).setCells w.heap.size 0 cs) ∧ ((w.alloc (.cells (entC (List.replicate 32 0) 0).toArray 31)).setCells w.heap.size 0 cs).rangeAt w.heap.size 0 cs := by
  have hB := Blk.new w 31 (entC (List.replicate 32 0) 0).toArray
  have ht : (w.alloc (.cells (entC (List.replicate 32 0) 0).toArray 31)).there w.heap.size 0 cs.length := fun j hj => ⟨by
    rw [hB.cell]
    have : 0 + j < (entC (List.replicate 32 0) 0).toArray.size := by simp [entC, u8s]; omega
    rw [Array.getElem?_eq_getElem this]
    rfl, hB.frozen _⟩
  refine ⟨ht, ((Below.refl _ _).alloc (Nat.le_refl _) _).trans (setCells_below (Nat.le_refl _) _ _ _).1, World.rangeAt_setCells_same _ _ _ _ ht⟩
theorem Lists.min {F : List Int → Option Int} {W : List (List Int × Int)} (h : Lists F W) : Lists (liveF F (-9223372036854775808)) W := h.congr fun d hd => by
  unfold liveF
  cases hf : F d with
  | none => rfl
  | some t =>
    have := h.exp d t hd hf
    unfold isI64 at this
    simp only
    rw [if_neg (by omega)]
theorem Lists.has {F : List Int → Option Int} {W : List (List Int × Int)} (h : Lists F W) {d : List Int} (hd : DigOk d) (now : Int) : (W.any fun p => decide (p.1 = d) && decide (now ≤ p.2)) = ((F d).isSome && decide (now ≤ (F d).getD 0)) := by
  rw [Bool.eq_iff_iff, List.any_eq_true]
  simp only [Bool.and_eq_true, decide_eq_true_eq]
  constructor
  · rintro ⟨p, hp, rfl, hn⟩
    have := ((h.mem p).1 hp).2
    rw [this]
    exact ⟨rfl, hn⟩
  · rintro ⟨hs, hn⟩
    obtain ⟨t, ht⟩ := Option.isSome_iff_exists.1 hs
    rw [ht] at hn
    exact ⟨(d, t), (h.mem _).2 ⟨⟨hd, h.exp _ _ hd ht⟩, ht⟩, rfl, hn⟩

set_option maxRecDepth 100000 in
set_option maxHeartbeats 16000000 in
theorem matches_any (va : Value) (l : List OpD) (w : World) (hs : Sn w 3 va l.length (l.flatMap opC)) (hok : ∀ o ∈ l, OpOk o) :
    Calls Try.prog 7 #[va] w fun e w' => e = .returned (.bool true) ∧ Below w.heap.size w w' := by
  obtain ⟨A, cap, rfl, hcap, _, _⟩ := id hs
  have HS := Lib.hid hs
  have HOK := Lib.hid hok
  clear hs hok
  rcases Bool.eq_false_or_eq_true (decide ((200 : Int) < l.length)) with d1 | d1
  · go_enter Try.func7, Try.ntmps7
    go_wp2_with fail
    refine (awake_any w).mono ?_
    rintro e w1 ⟨rfl, hb1⟩
    go_wp2_with fail
    refine (awake_any w1).mono ?_
    rintro e w2 ⟨rfl, hb2⟩
    go_wp2_with fail
    go_ret
    exact ⟨rfl, bstep hb1 hb2⟩
  · have hl : l.length ≤ 200 := by have := of_decide_eq_false d1; omega
    go_enter Try.func7, Try.ntmps7
    go_wp2_with fail
    refine (awake_any w).mono ?_
    rintro e w1 ⟨rfl, hb1⟩
    have hs1 := HS.out.below hb1
    go_wp2_with fail
    have hb1s := hb1.size
    refine (new_any _ [] w1 ⟨none, 0, rfl, Nat.le_refl _, rfl, fun h => absurd h (by simp)⟩ (by simp) (by simp)).mono ?_
    rintro e w2 ⟨g, b, rfl, hX2, hgl, hbl, hb2⟩
    have hnil : (idxS []).1 = (fun _ => none) := by rw [idxS_def]; rfl
    have hnil2 : (idxS []).2 = 0 := by rw [idxS_def]; rfl
    rw [hnil, hnil2] at hX2
    clear hnil hnil2
    have hb2s := hb2.size
    go_wp2_with fail
    go_loopw [4, 5] (fun m i wr => ∃ (k : Nat) (F : List Int → Option Int) (C : Nat) (W : List (List Int × Int)), k ≤ l.length ∧ i = .int .i64 k ∧ Sn wr 33 m W.length (W.flatMap entP) ∧ IX wr g b k F C ∧ Lists F W ∧ W.length ≤ k ∧ Below w1.heap.size w1 wr) (fun _ i _ => l.length - (intOf i).toNat)
    case atStart => exact ⟨0, _, _, [], Nat.zero_le _, rfl, ⟨none, 0, rfl, Nat.le_refl _, rfl, fun h => absurd h (by simp)⟩, hX2, Lists.nil, Nat.le_refl _, hb2⟩
    case round =>
      obtain ⟨k, F, C, W, hk, rfl, hsW, hX, hLW, hWk, hb⟩ := hrel
      have HSW := Lib.hid hsW
      have HLW := Lib.hid hLW
      clear hsW hLW
      by_cases hlt : k < l.length
      · obtain ⟨b0, off0, rfl, hr⟩ := at_elem opC OpOk 3 opC_length (hs1.below hb) HOK.out k hlt
        have HC : Hid (∀ w', Below w1.heap.size w1 w' → w'.cell? ⟨b0, off0 + k * 3, none⟩ = some (.int .i64 l[k].kind) ∧ w'.cell? ⟨b0, off0 + k * 3 + 1, none⟩ = some (.int .u8 l[k].dig) ∧ w'.cell? ⟨b0, off0 + k * 3 + 2, none⟩ = some (.int .i64 l[k].time)) := Lib.hid (fun w' hb' => by
          obtain ⟨b', off', hA, hr'⟩ := at_elem opC OpOk 3 opC_length (hs1.below hb') HOK.out k hlt
          injection hA with hA
          injection hA with h1 h2 _
          subst h1 h2
          exact ⟨hr' 0 _ rfl, hr' 1 _ rfl, hr' 2 _ rfl⟩)
        clear hr
        have hok := HOK.out l[k] (List.getElem_mem hlt)
        obtain ⟨o, ho⟩ : ∃ o, o = l[k] := ⟨_, rfl⟩
        rw [← ho] at HC hok
        clear ho
        have HDG := Lib.hid (dg_ok o.dig hok.dig)
        have hto := hok.time
        have HENT := Lib.hid (entC_length HDG.out o.time)
        have HEO1 : Hid (EntOk (dg o.dig, o.time)) := Lib.hid ⟨HDG.out, hto⟩
        have hdl := hok.dig
        have h32 : (u8s (dg o.dig)).length = 32 := by simp [u8s, HDG.out.len]
        have HUI : Hid ((Try.prog.info? 26).map (·.size) = some (u8s (dg o.dig)).length) := Lib.hid (by rw [h32]; kernel_rfl)
        have HUE : Hid ((Try.prog.info? 31).map (·.size) = some (entP (dg o.dig, o.time)).length) := Lib.hid (by rw [entP_length _ HEO1.out]; kernel_rfl)
        have h1 := u8s_one (dg o.dig)
        obtain ⟨c0, c1, _⟩ := HC.out wr hb
        have hi0 : (0 : Int) ≤ k := by omega
        have hi1 : (k : Int) < l.length := by omega
        clear c0
        go_wp2_with fail
        refine (digest_any o.dig _ hdl).mono ?_
        rintro e w3 ⟨rfl, hb3⟩
        have hb3' := bstep hb hb3
        have hX3 := hX.keep hb3
        have hs3 := HSW.out.below hb3
        have HS3 := Lib.hid hs3
        clear hb hb3 hX hs3 HSW c1
        have hb3s := hb3'.size
        have hkind : (o.kind == 0) = true ∨ (o.kind == 0) = false ∧ (o.kind == 1) = true ∨ (o.kind == 0) = false ∧ (o.kind == 1) = false := by
          cases (o.kind == 0) <;> cases (o.kind == 1) <;> simp
        have HOKW : Hid (∀ p ∈ W, EntOk p) := Lib.hid (fun p hp => ((HLW.out.mem p).1 hp).1)
        have hCW := HLW.out.count hX3.2.2
        have hud := Try.underlying26
        rcases hkind with t1 | ⟨t1, t2⟩ | ⟨t1, t2⟩
        · go_wp2_with (refine stNew 26 (.tmp 6) (.tmp 34) rfl rfl rfl rfl (by simp only [List.size_toArray, h32]; kernel_rfl) (by simp only [List.size_toArray, h32] <;> rfl) h1 ?_; intro wD hblk hbD hsD; have hkc := (HC.out wD (bstep hb3' hbD)).1)
          have hrd := Blk.range hblk
          rw [List.toList_toArray] at hrd
          obtain ⟨dB, hdB⟩ : ∃ x, x = w3.heap.size := ⟨_, rfl⟩
          rw [← hdB] at hrd ⊢
          have hbD1 := bstep hb3' hbD
          have HMS : Hid (MS g b k C F u4 W dB (dg o.dig) b0 (off0 + k * 3 + 2) o.time wD wD) := Lib.hid ⟨hX3.keep hbD, HS3.out.below hbD, hrd, (HC.out wD hbD1).2.2, Below.refl _ _⟩
          have hbuild := build_ent (dg o.dig) o.time HDG.out.len
          have hbuild3 := build_size
          have hent := HENT.out
          have hDlt : dB < wD.heap.size := cell_lt (hrd 0 _ rfl)
          clear hdB hkc hrd hblk hX3 HS3 hbD hsD
          refine held_start 9 (MS g b k C F u4 W dB (dg o.dig) b0 (off0 + k * 3 + 2) o.time wD) (by kernel_rfl) (by kernel_rfl) (HMS.out.keep (Below.refl _ _).drew) (fun hHeld => ?_)
          refine hLoad 0 26 (Operand.tmp 6) (some 42) (cs := u8s (dg o.dig)) (by kernel_rfl) (by kernel_rfl) (by kernel_rfl) (by kernel_rfl) (by kernel_rfl) (fun _ _ _ h => h) (by exact rfl) (fun _ hX => hX.dig) Try.underlying26 rfl HUI.out hHeld ?_
          simp only [Act.put, List.setIfInBounds_toArray, List.set_cons_zero, List.set_cons_succ]
          refine hMove 1 (Operand.tmp 0) (some 43) (.slice (some ⟨b0, off0, none⟩) l.length cap) (by kernel_rfl) (by kernel_rfl) (by kernel_rfl) (by kernel_rfl) (by kernel_rfl) (fun _ _ _ h => h) (by exact rfl) hHeld ?_
          simp only [Act.put, List.setIfInBounds_toArray, List.set_cons_zero, List.set_cons_succ]
          refine hMove 2 (Operand.tmp 5) (some 44) (.int .i64 k) (by kernel_rfl) (by kernel_rfl) (by kernel_rfl) (by kernel_rfl) (by kernel_rfl) (fun _ _ _ h => h) (by exact rfl) hHeld ?_
          simp only [Act.put, List.setIfInBounds_toArray, List.set_cons_zero, List.set_cons_succ]
          refine hTake 3 (Op.indexAddr 22 (Operand.tmp 43) (Operand.tmp 44)) (some 45) (.pointer (some ⟨b0, off0 + k * 3, none⟩)) (by kernel_rfl) (by kernel_rfl) (by kernel_rfl) (by kernel_rfl) (by kernel_rfl) (fun _ _ _ h => h) (fun o ho wX hX => by unfold execOp; simp only [ho]; go_simp) hHeld ?_
          simp only [Act.put, List.setIfInBounds_toArray, List.set_cons_zero, List.set_cons_succ]
          refine hTake 4 (Op.fieldAddr 29 (Operand.tmp 45) 2) (some 46) (.pointer (some ⟨b0, off0 + k * 3 + 2, none⟩)) (by kernel_rfl) (by kernel_rfl) (by kernel_rfl) (by kernel_rfl) (by kernel_rfl) (fun _ _ _ h => h) (fun o ho wX hX => by unfold execOp; simp only [ho]; go_simp) hHeld ?_
          simp only [Act.put, List.setIfInBounds_toArray, List.set_cons_zero, List.set_cons_succ]
          refine hTake 5 (Op.load 2 (Operand.tmp 46)) (some 47) (.int .i64 o.time) (by kernel_rfl) (by kernel_rfl) (by kernel_rfl) (by kernel_rfl) (by kernel_rfl) (fun _ _ _ h => h) (fun o ho wX hX => by have hcell := hX.tm; unfold execOp; simp only [ho]; go_simp) hHeld ?_
          simp only [Act.put, List.setIfInBounds_toArray, List.set_cons_zero, List.set_cons_succ]
          refine hTake 6 (Op.build 31 #[(0, Operand.tmp 42), (1, Operand.tmp 47)]) (some 48) (.agg (entC (dg o.dig) o.time).toArray) (by kernel_rfl) (by kernel_rfl) (by kernel_rfl) (by kernel_rfl) (by kernel_rfl) (fun _ _ _ h => h) (fun o ho wX hX => by unfold execOp; simp only [ho]; go_simp) hHeld ?_
          simp only [Act.put, List.setIfInBounds_toArray, List.set_cons_zero, List.set_cons_succ]
          refine wpAnyH_ready (rs := [7]) (by kernel_rfl) (by simp) ?_
          refine rAlloc 7 31 (some 8) (entC (List.replicate 32 0) 0).toArray (by kernel_rfl) (by kernel_rfl) (fun w => by kernel_rfl) (hHeld.keep ((Below.refl _ _).alloc (Nat.le_refl _) _)) ?_ AllReadyH.nil
          simp only [Act.put, List.setIfInBounds_toArray, List.set_cons_zero, List.set_cons_succ]
          refine wpAnyH_ready (rs := [8]) (by kernel_rfl) (by simp) ?_
          obtain ⟨hth, hst1, hst2⟩ := st_new wD.drew (entP (dg o.dig, o.time)) HENT.out
          refine rStoreS 8 31 (.tmp 8) (.tmp 48) none (cs := entP (dg o.dig, o.time)) (by kernel_rfl) (by kernel_rfl) (by exact rfl) (by exact rfl) hth HUE.out (entP_one _) (hHeld.keep hst1) ?_ AllReadyH.nil
          simp only [Act.put, List.setIfInBounds_toArray, List.set_cons_zero, List.set_cons_succ]
          refine wpAnyH_done (by kernel_rfl) ?_ _
          obtain ⟨eB, heB⟩ : ∃ x, x = wD.drew.heap.size := ⟨_, rfl⟩
          obtain ⟨wE, hwE⟩ : ∃ x, x = (wD.drew.alloc (.cells (entC (List.replicate 32 0) 0).toArray 31)).setCells wD.drew.heap.size 0 (entP (dg o.dig, o.time)) := ⟨_, rfl⟩
          have hbE : Below wD.heap.size wD wE := by rw [hwE]; exact (Below.refl wD.heap.size wD).drew.trans hst1
          have hrE : wE.rangeAt eB 0 (entP (dg o.dig, o.time)) := by rw [hwE, heB]; exact hst2
          rw [← hwE, ← heB]
          clear hwE heB hth hst1 hst2
          have hbE1 := bstep hbD1 hbE
          have hXE := HMS.out.ix.keep hbE
          have HSE := Lib.hid (HMS.out.sn.below hbE)
          have HRE := Lib.hid hrE
          have HDE : Hid (wE.rangeAt dB 0 (u8s (dg o.dig))) := Lib.hid (fun j u hj => Below.cell' hbE (HMS.out.dig j u hj))
          have HPQ := Lib.hid (refPut_ok HLW.out HEO1.out)
          have HPL := Lib.hid (refPut_len W (dg o.dig, o.time))
          clear hrE hbE HMS hbD1 hbuild hbuild3 hent hDlt
          have HUE' := HUE.out
          go_wp2_with (refine ld 31 _ rfl rfl rfl HRE.out Try.underlying31 rfl HUE' ?_)
          refine (ref_put_any _ W (dg o.dig, o.time) wE HSE.out HOKW.out (by omega) HEO1.out).mono ?_
          rintro e w5 ⟨v5, rfl, hs5, hb5⟩
          rw [HPQ.out.2]
          obtain ⟨pb, hpb⟩ : ∃ x, x = !old? F (dg o.dig) o.time := ⟨_, rfl⟩
          rw [← hpb]
          have HPB := Lib.hid hpb
          have hb51 := bstep hbE1 hb5
          have hX5 := hXE.keep hb5
          have HRE5 : Hid (w5.rangeAt eB 0 (entP (dg o.dig, o.time))) := Lib.hid (fun j u hj => Below.cell' hb5 (HRE.out j u hj))
          have HDE5 : Hid (w5.rangeAt dB 0 (u8s (dg o.dig))) := Lib.hid (fun j u hj => Below.cell' hb5 (HDE.out j u hj))
          have HS5 := Lib.hid hs5
          clear hpb hb5 hXE HSE HRE HDE hs5 hbE1
          go_wp2_with (refine ld 31 _ rfl rfl rfl HRE5.out Try.underlying31 rfl HUE' ?_)
          refine (put_any g b k C F (dg o.dig) o.time w5 hX5 HDG.out hto (by unfold maxLen; omega)).mono ?_
          rintro e w6 ⟨rfl, hX6, hoff⟩
          rw [← HPB.out]
          have hb6 : Below w1.heap.size w1 w6 := hb51.trans (hoff.below hbl hb51.size)
          have hs6 := HS5.out.off hX5.2.2 hoff
          have HD6 : Hid (w6.rangeAt dB 0 (u8s (dg o.dig))) := Lib.hid (fun j u hj => hoff.cell (HDE5.out j u hj) (hX5.2.2.ne (HDE5.out j u hj)))
          obtain ⟨F5, hF5⟩ : ∃ x, x = putF F (dg o.dig) o.time := ⟨_, rfl⟩
          obtain ⟨W5, hW5⟩ : ∃ x, x = (refPut W (dg o.dig, o.time)).1 := ⟨_, rfl⟩
          have hL5 : Lists F5 W5 := by rw [hF5, hW5]; exact HPQ.out.1
          have hWl5 : W5.length ≤ k + 1 := by rw [hW5]; have := HPL.out; omega
          rw [← hF5] at hX6
          rw [← hW5] at hs6
          have hcc := hL5.count hX6.2.2
          rw [hcc] at hX6
          clear hcc
          obtain ⟨A5, cap5, e5, _, _, _⟩ := id hs6
          subst e5
          have HL5 := Lib.hid hL5
          have HS6 := Lib.hid hs6
          clear hF5 hW5 hL5 hs6 hoff hX5 HS5 HDE5 HRE5 hb51
          go_wp2_with (refine ld 26 _ rfl rfl rfl HD6.out hud rfl HUI.out ?_)
          refine (get_any g b (k + 1) W5.length F5 (dg o.dig) w6 hX6 HDG.out).mono ?_
          rintro e w7 ⟨rfl, hb7⟩
          have HMS6 : Hid (MS g b (k + 1) W5.length F5 (.slice A5 W5.length cap5) W5 dB (dg o.dig) b0 (off0 + k * 3 + 2) o.time w7 w7) := Lib.hid ⟨hX6.keep hb7, HS6.out.below hb7, fun j u hj => Below.cell' hb7 (HD6.out j u hj), (HC.out w7 (bstep hb6 hb7)).2.2, Below.refl _ _⟩
          have hb7' := bstep hb6 hb7
          have HLM := Lib.hid HL5.out.min
          have HOK5 : Hid (∀ p ∈ W5, EntOk p) := Lib.hid (fun p hp => ((HL5.out.mem p).1 hp).1)
          obtain ⟨hv, hhv⟩ : ∃ x, x = ((F5 (dg o.dig)).isSome && decide (o.time ≤ (F5 (dg o.dig)).getD 0)) := ⟨_, rfl⟩
          have HHV := Lib.hid hhv.symm
          have HRV : Hid ((W5.any fun p => decide (p.1 = dg o.dig) && decide (o.time ≤ p.2)) = hv) := Lib.hid ((HL5.out.has HDG.out o.time).trans hhv.symm)
          have HF : Hid (F5 (dg o.dig) = none ∨ ∃ t, F5 (dg o.dig) = some t) := Lib.hid (by cases F5 (dg o.dig) <;> simp)
          have hent0 := fun t => entC_length HDG.out t
          have hbuild0 := fun t => build_ent (dg o.dig) t HDG.out.len
          have hbuild3 := build_size
          clear hhv hb6 hb7 hX6 HS6 HD6 hud h1 HEO1 HUE
          rcases HF.out with hF | ⟨t, hF⟩
          · have HMEM : Hid (decide ((dg o.dig, (0 : Int)) ∈ W5) = false) := Lib.hid (decide_eq_false fun h => by
              have := ((HL5.out.mem _).1 h).2
              simp only at this
              rw [hF] at this
              cases this)
            have HEO : Hid (EntOk (dg o.dig, (0 : Int))) := Lib.hid ⟨HDG.out, by show isI64 0; unfold isI64; omega⟩
            have hbuild := hbuild0 0
            have hent := hent0 0
            rw [hF, Option.isSome_none, Option.getD_none]
            clear hF hbuild0 hent0
            go_wp2_with fail
            refine held_start 48 (MS g b (k + 1) W5.length F5 (.slice A5 W5.length cap5) W5 dB (dg o.dig) b0 (off0 + k * 3 + 2) o.time w7) (by kernel_rfl) (by kernel_rfl) (HMS6.out.keep (Below.refl _ _).drew) (fun hHeld => ?_)
            refine hMove 0 (Operand.tmp 3) (some 89) (.pointer (some ⟨g, 0, none⟩)) (by kernel_rfl) (by kernel_rfl) (by kernel_rfl) (by kernel_rfl) (by kernel_rfl) (fun _ _ _ h => h) (by exact rfl) hHeld ?_
            simp only [Act.put, List.setIfInBounds_toArray, List.set_cons_zero, List.set_cons_succ]
            refine hMove 2 (Operand.tmp 4) (some 91) (.slice A5 W5.length cap5) (by kernel_rfl) (by kernel_rfl) (by kernel_rfl) (by kernel_rfl) (by kernel_rfl) (fun _ _ _ h => h) (by exact rfl) hHeld ?_
            simp only [Act.put, List.setIfInBounds_toArray, List.set_cons_zero, List.set_cons_succ]
            refine wpAnyH_ready (rs := [1]) (by kernel_rfl) (by simp) ?_
            refine rCall 1 (Op.call { callee := Callee.value (Operand.func 12), args := #[Operand.tmp 89, Operand.const (Value.int IntKind.i64 (-9223372036854775808))], argTypes := #[32, 2] }) (some 90) 12 (#[.pointer (some ⟨g, 0, none⟩), .int .i64 (-9223372036854775808)]) (by kernel_rfl) (by kernel_rfl) (fun o ho => by unfold execOp; simp only [ho]; go_simp) ?_ AllReadyH.nil
            refine (live_full g b (k + 1) W5.length F5 _ _ hHeld.ix (by omega)).mono ?_
            rintro e wL ⟨vL, L, rfl, hsL, hmL, hpL, hbL, _⟩
            have hLW : L = W5 := (Lists.of_live hmL hpL hHeld.ix.i64).eq HLM.out
            rw [hLW] at hsL
            clear hLW hmL hpL
            refine ⟨_, rfl, hHeld.keep hbL, fun hHeld => ?_⟩
            simp only [Act.put, List.setIfInBounds_toArray, List.set_cons_zero, List.set_cons_succ]
            refine wpAnyH_ready (rs := [3]) (by kernel_rfl) (by simp) ?_
            refine rCall 3 (Op.call { callee := Callee.value (Operand.func 13), args := #[Operand.tmp 90, Operand.tmp 91], argTypes := #[24, 24] }) (some 92) 13 (#[vL, .slice A5 W5.length cap5]) (by kernel_rfl) (by kernel_rfl) (fun o ho => by unfold execOp; simp only [ho]; go_simp) ?_ AllReadyH.nil
            refine (same_any _ _ W5 W5 _ hsL HOK5.out hHeld.sn HOK5.out (by omega) (by omega)).mono ?_
            rintro e wM ⟨rfl, hbM⟩
            rw [decide_eq_true rfl]
            refine ⟨_, rfl, hHeld.keep hbM, fun hHeld => ?_⟩
            simp only [Act.put, List.setIfInBounds_toArray, List.set_cons_zero, List.set_cons_succ]
            refine hTake 4 (Op.unOp UnOp.not 4 (Operand.tmp 92)) (some 93) (.bool false) (by kernel_rfl) (by kernel_rfl) (by kernel_rfl) (by kernel_rfl) (by kernel_rfl) (fun _ _ _ h => h) (fun o ho wX hX => by unfold execOp; simp only [ho]; go_simp) hHeld ?_
            simp only [Act.put, List.setIfInBounds_toArray, List.set_cons_zero, List.set_cons_succ]
            refine hMove 5 (Operand.tmp 93) (some 94) (.bool false) (by kernel_rfl) (by kernel_rfl) (by kernel_rfl) (by kernel_rfl) (by kernel_rfl) (fun _ _ _ h => h) (by exact rfl) hHeld ?_
            simp only [Act.put, List.setIfInBounds_toArray, List.set_cons_zero, List.set_cons_succ]
            refine hMove 6 (Operand.tmp 3) (some 95) (.pointer (some ⟨g, 0, none⟩)) (by kernel_rfl) (by kernel_rfl) (by kernel_rfl) (by kernel_rfl) (by kernel_rfl) (fun _ _ _ h => h) (by exact rfl) hHeld ?_
            simp only [Act.put, List.setIfInBounds_toArray, List.set_cons_zero, List.set_cons_succ]
            refine hMove 8 (Operand.tmp 4) (some 97) (.slice A5 W5.length cap5) (by kernel_rfl) (by kernel_rfl) (by kernel_rfl) (by kernel_rfl) (by kernel_rfl) (fun _ _ _ h => h) (by exact rfl) hHeld ?_
            simp only [Act.put, List.setIfInBounds_toArray, List.set_cons_zero, List.set_cons_succ]
            refine hTake 9 (Op.call { callee := Callee.builtin Builtin.len, args := #[Operand.tmp 97], argTypes := #[24] }) (some 98) (.int .i64 (W5.length : Int)) (by kernel_rfl) (by kernel_rfl) (by kernel_rfl) (by kernel_rfl) (by kernel_rfl) (fun _ _ _ h => h) (fun o ho wX hX => by unfold execOp; simp only [ho]; go_simp) hHeld ?_
            simp only [Act.put, List.setIfInBounds_toArray, List.set_cons_zero, List.set_cons_succ]
            refine wpAnyH_ready (rs := [7]) (by kernel_rfl) (by simp) ?_
            refine rCall 7 (Op.call { callee := Callee.value (Operand.func 17), args := #[Operand.tmp 95], argTypes := #[32] }) (some 96) 17 (#[.pointer (some ⟨g, 0, none⟩)]) (by kernel_rfl) (by kernel_rfl) (fun o ho => by unfold execOp; simp only [ho]; go_simp) ?_ AllReadyH.nil
            refine (count_any g b (k + 1) W5.length F5 _ hHeld.ix).mono ?_
            rintro e wN ⟨rfl, hwN⟩
            subst hwN
            refine ⟨_, rfl, hHeld, fun hHeld => ?_⟩
            simp only [Act.put, List.setIfInBounds_toArray, List.set_cons_zero, List.set_cons_succ]
            refine hTake 10 (Op.binOp BinOp.neq 3 (Operand.tmp 96) (Operand.tmp 98) 3) (some 99) (.bool false) (by kernel_rfl) (by kernel_rfl) (by kernel_rfl) (by kernel_rfl) (by kernel_rfl) (fun _ _ _ h => h) (fun o ho wX hX => by unfold execOp; simp only [ho]; go_simp) hHeld ?_
            simp only [Act.put, List.setIfInBounds_toArray, List.set_cons_zero, List.set_cons_succ]
            refine hTake 11 (Op.pick (Operand.tmp 94) (Operand.const (Value.bool true)) (Operand.tmp 99)) (some 100) (.bool false) (by kernel_rfl) (by kernel_rfl) (by kernel_rfl) (by kernel_rfl) (by kernel_rfl) (fun _ _ _ h => h) (fun o ho wX hX => by unfold execOp; simp only [ho]; go_simp) hHeld ?_
            simp only [Act.put, List.setIfInBounds_toArray, List.set_cons_zero, List.set_cons_succ]
            refine hMove 12 (Operand.tmp 100) (some 101) (.bool false) (by kernel_rfl) (by kernel_rfl) (by kernel_rfl) (by kernel_rfl) (by kernel_rfl) (fun _ _ _ h => h) (by exact rfl) hHeld ?_
            simp only [Act.put, List.setIfInBounds_toArray, List.set_cons_zero, List.set_cons_succ]
            refine hMove 13 (Operand.tmp 3) (some 102) (.pointer (some ⟨g, 0, none⟩)) (by kernel_rfl) (by kernel_rfl) (by kernel_rfl) (by kernel_rfl) (by kernel_rfl) (fun _ _ _ h => h) (by exact rfl) hHeld ?_
            simp only [Act.put, List.setIfInBounds_toArray, List.set_cons_zero, List.set_cons_succ]
            refine hLoad 14 26 (Operand.tmp 6) (some 103) (cs := u8s (dg o.dig)) (by kernel_rfl) (by kernel_rfl) (by kernel_rfl) (by kernel_rfl) (by kernel_rfl) (fun _ _ _ h => h) (by exact rfl) (fun _ hX => hX.dig) Try.underlying26 rfl HUI.out hHeld ?_
            simp only [Act.put, List.setIfInBounds_toArray, List.set_cons_zero, List.set_cons_succ]
            refine hMove 15 (Operand.tmp 0) (some 104) (.slice (some ⟨b0, off0, none⟩) l.length cap) (by kernel_rfl) (by kernel_rfl) (by kernel_rfl) (by kernel_rfl) (by kernel_rfl) (fun _ _ _ h => h) (by exact rfl) hHeld ?_
            simp only [Act.put, List.setIfInBounds_toArray, List.set_cons_zero, List.set_cons_succ]
            refine hMove 16 (Operand.tmp 5) (some 105) (.int .i64 k) (by kernel_rfl) (by kernel_rfl) (by kernel_rfl) (by kernel_rfl) (by kernel_rfl) (fun _ _ _ h => h) (by exact rfl) hHeld ?_
            simp only [Act.put, List.setIfInBounds_toArray, List.set_cons_zero, List.set_cons_succ]
            refine hTake 17 (Op.indexAddr 22 (Operand.tmp 104) (Operand.tmp 105)) (some 106) (.pointer (some ⟨b0, off0 + k * 3, none⟩)) (by kernel_rfl) (by kernel_rfl) (by kernel_rfl) (by kernel_rfl) (by kernel_rfl) (fun _ _ _ h => h) (fun o ho wX hX => by unfold execOp; simp only [ho]; go_simp) hHeld ?_
            simp only [Act.put, List.setIfInBounds_toArray, List.set_cons_zero, List.set_cons_succ]
            refine hTake 18 (Op.fieldAddr 29 (Operand.tmp 106) 2) (some 107) (.pointer (some ⟨b0, off0 + k * 3 + 2, none⟩)) (by kernel_rfl) (by kernel_rfl) (by kernel_rfl) (by kernel_rfl) (by kernel_rfl) (fun _ _ _ h => h) (fun o ho wX hX => by unfold execOp; simp only [ho]; go_simp) hHeld ?_
            simp only [Act.put, List.setIfInBounds_toArray, List.set_cons_zero, List.set_cons_succ]
            refine hTake 19 (Op.load 2 (Operand.tmp 107)) (some 108) (.int .i64 o.time) (by kernel_rfl) (by kernel_rfl) (by kernel_rfl) (by kernel_rfl) (by kernel_rfl) (fun _ _ _ h => h) (fun o ho wX hX => by have hcell := hX.tm; unfold execOp; simp only [ho]; go_simp) hHeld ?_
            simp only [Act.put, List.setIfInBounds_toArray, List.set_cons_zero, List.set_cons_succ]
            refine hMove 21 (Operand.tmp 4) (some 110) (.slice A5 W5.length cap5) (by kernel_rfl) (by kernel_rfl) (by kernel_rfl) (by kernel_rfl) (by kernel_rfl) (fun _ _ _ h => h) (by exact rfl) hHeld ?_
            simp only [Act.put, List.setIfInBounds_toArray, List.set_cons_zero, List.set_cons_succ]
            refine hLoad 22 26 (Operand.tmp 6) (some 111) (cs := u8s (dg o.dig)) (by kernel_rfl) (by kernel_rfl) (by kernel_rfl) (by kernel_rfl) (by kernel_rfl) (fun _ _ _ h => h) (by exact rfl) (fun _ hX => hX.dig) Try.underlying26 rfl HUI.out hHeld ?_
            simp only [Act.put, List.setIfInBounds_toArray, List.set_cons_zero, List.set_cons_succ]
            refine hMove 23 (Operand.tmp 0) (some 112) (.slice (some ⟨b0, off0, none⟩) l.length cap) (by kernel_rfl) (by kernel_rfl) (by kernel_rfl) (by kernel_rfl) (by kernel_rfl) (fun _ _ _ h => h) (by exact rfl) hHeld ?_
            simp only [Act.put, List.setIfInBounds_toArray, List.set_cons_zero, List.set_cons_succ]
            refine hMove 24 (Operand.tmp 5) (some 113) (.int .i64 k) (by kernel_rfl) (by kernel_rfl) (by kernel_rfl) (by kernel_rfl) (by kernel_rfl) (fun _ _ _ h => h) (by exact rfl) hHeld ?_
            simp only [Act.put, List.setIfInBounds_toArray, List.set_cons_zero, List.set_cons_succ]
            refine hTake 25 (Op.indexAddr 22 (Operand.tmp 112) (Operand.tmp 113)) (some 114) (.pointer (some ⟨b0, off0 + k * 3, none⟩)) (by kernel_rfl) (by kernel_rfl) (by kernel_rfl) (by kernel_rfl) (by kernel_rfl) (fun _ _ _ h => h) (fun o ho wX hX => by unfold execOp; simp only [ho]; go_simp) hHeld ?_
            simp only [Act.put, List.setIfInBounds_toArray, List.set_cons_zero, List.set_cons_succ]
            refine hTake 26 (Op.fieldAddr 29 (Operand.tmp 114) 2) (some 115) (.pointer (some ⟨b0, off0 + k * 3 + 2, none⟩)) (by kernel_rfl) (by kernel_rfl) (by kernel_rfl) (by kernel_rfl) (by kernel_rfl) (fun _ _ _ h => h) (fun o ho wX hX => by unfold execOp; simp only [ho]; go_simp) hHeld ?_
            simp only [Act.put, List.setIfInBounds_toArray, List.set_cons_zero, List.set_cons_succ]
            refine hTake 27 (Op.load 2 (Operand.tmp 115)) (some 116) (.int .i64 o.time) (by kernel_rfl) (by kernel_rfl) (by kernel_rfl) (by kernel_rfl) (by kernel_rfl) (fun _ _ _ h => h) (fun o ho wX hX => by have hcell := hX.tm; unfold execOp; simp only [ho]; go_simp) hHeld ?_
            simp only [Act.put, List.setIfInBounds_toArray, List.set_cons_zero, List.set_cons_succ]
            refine wpAnyH_ready (rs := [20]) (by kernel_rfl) (by simp) ?_
            refine rCall 20 (Op.call { callee := Callee.value (Operand.func 16), args := #[Operand.tmp 102, Operand.tmp 103, Operand.tmp 108], argTypes := #[32, 26, 2] }) (some 109) 16 (#[.pointer (some ⟨g, 0, none⟩), .agg (u8s (dg o.dig)).toArray, .int .i64 o.time]) (by kernel_rfl) (by kernel_rfl) (fun o ho => by unfold execOp; simp only [ho]; go_simp) ?_ AllReadyH.nil
            refine (has_any g b (k + 1) W5.length F5 (dg o.dig) o.time _ hHeld.ix HDG.out).mono ?_
            rintro e wP ⟨rfl, hbP⟩
            rw [HHV.out]
            refine ⟨_, rfl, hHeld.keep hbP, fun hHeld => ?_⟩
            simp only [Act.put, List.setIfInBounds_toArray, List.set_cons_zero, List.set_cons_succ]
            refine wpAnyH_ready (rs := [28]) (by kernel_rfl) (by simp) ?_
            refine rCall 28 (Op.call { callee := Callee.value (Operand.func 23), args := #[Operand.tmp 110, Operand.tmp 111, Operand.tmp 116], argTypes := #[24, 26, 2] }) (some 117) 23 (#[.slice A5 W5.length cap5, .agg (u8s (dg o.dig)).toArray, .int .i64 o.time]) (by kernel_rfl) (by kernel_rfl) (fun o ho => by unfold execOp; simp only [ho]; go_simp) ?_ AllReadyH.nil
            refine (ref_has_any _ W5 (dg o.dig) o.time _ hHeld.sn HOK5.out (by omega) HDG.out).mono ?_
            rintro e wQ ⟨rfl, hbQ⟩
            rw [HRV.out]
            refine ⟨_, rfl, hHeld.keep hbQ, fun hHeld => ?_⟩
            simp only [Act.put, List.setIfInBounds_toArray, List.set_cons_zero, List.set_cons_succ]
            refine hTake 29 (Op.binOp BinOp.neq 4 (Operand.tmp 109) (Operand.tmp 117) 4) (some 118) (.bool false) (by kernel_rfl) (by kernel_rfl) (by kernel_rfl) (by kernel_rfl) (by kernel_rfl) (fun _ _ _ h => h) (fun o ho wX hX => by unfold execOp; simp only [ho]; go_simp) hHeld ?_
            simp only [Act.put, List.setIfInBounds_toArray, List.set_cons_zero, List.set_cons_succ]
            refine hTake 30 (Op.pick (Operand.tmp 101) (Operand.const (Value.bool true)) (Operand.tmp 118)) (some 119) (.bool false) (by kernel_rfl) (by kernel_rfl) (by kernel_rfl) (by kernel_rfl) (by kernel_rfl) (fun _ _ _ h => h) (fun o ho wX hX => by unfold execOp; simp only [ho]; go_simp) hHeld ?_
            simp only [Act.put, List.setIfInBounds_toArray, List.set_cons_zero, List.set_cons_succ]
            refine hMove 31 (Operand.tmp 119) (some 120) (.bool false) (by kernel_rfl) (by kernel_rfl) (by kernel_rfl) (by kernel_rfl) (by kernel_rfl) (fun _ _ _ h => h) (by exact rfl) hHeld ?_
            simp only [Act.put, List.setIfInBounds_toArray, List.set_cons_zero, List.set_cons_succ]
            refine hMove 32 (Operand.tmp 11) (some 121) (.bool false) (by kernel_rfl) (by kernel_rfl) (by kernel_rfl) (by kernel_rfl) (by kernel_rfl) (fun _ _ _ h => h) (by exact rfl) hHeld ?_
            simp only [Act.put, List.setIfInBounds_toArray, List.set_cons_zero, List.set_cons_succ]
            refine hMove 33 (Operand.tmp 4) (some 122) (.slice A5 W5.length cap5) (by kernel_rfl) (by kernel_rfl) (by kernel_rfl) (by kernel_rfl) (by kernel_rfl) (fun _ _ _ h => h) (by exact rfl) hHeld ?_
            simp only [Act.put, List.setIfInBounds_toArray, List.set_cons_zero, List.set_cons_succ]
            refine hLoad 34 26 (Operand.tmp 6) (some 123) (cs := u8s (dg o.dig)) (by kernel_rfl) (by kernel_rfl) (by kernel_rfl) (by kernel_rfl) (by kernel_rfl) (fun _ _ _ h => h) (by exact rfl) (fun _ hX => hX.dig) Try.underlying26 rfl HUI.out hHeld ?_
            simp only [Act.put, List.setIfInBounds_toArray, List.set_cons_zero, List.set_cons_succ]
            refine hMove 35 (Operand.tmp 10) (some 124) (.int .i64 0) (by kernel_rfl) (by kernel_rfl) (by kernel_rfl) (by kernel_rfl) (by kernel_rfl) (fun _ _ _ h => h) (by exact rfl) hHeld ?_
            simp only [Act.put, List.setIfInBounds_toArray, List.set_cons_zero, List.set_cons_succ]
            refine hTake 36 (Op.build 31 #[(0, Operand.tmp 123), (1, Operand.tmp 124)]) (some 125) (.agg (entC (dg o.dig) 0).toArray) (by kernel_rfl) (by kernel_rfl) (by kernel_rfl) (by kernel_rfl) (by kernel_rfl) (fun _ _ _ h => h) (fun o ho wX hX => by unfold execOp; simp only [ho]; go_simp) hHeld ?_
            simp only [Act.put, List.setIfInBounds_toArray, List.set_cons_zero, List.set_cons_succ]
            refine wpAnyH_ready (rs := [37]) (by kernel_rfl) (by simp) ?_
            refine rCall 37 (Op.call { callee := Callee.value (Operand.func 24), args := #[Operand.tmp 122, Operand.tmp 125], argTypes := #[24, 31] }) (some 126) 24 (#[.slice A5 W5.length cap5, .agg (entC (dg o.dig) 0).toArray]) (by kernel_rfl) (by kernel_rfl) (fun o ho => by unfold execOp; simp only [ho]; go_simp) ?_ AllReadyH.nil
            refine (contains_any _ W5 (dg o.dig, 0) _ hHeld.sn HOK5.out (by omega) HEO.out).mono ?_
            rintro e wR ⟨rfl, hbR⟩
            rw [HMEM.out]
            refine ⟨_, rfl, hHeld.keep hbR, fun hHeld => ?_⟩
            simp only [Act.put, List.setIfInBounds_toArray, List.set_cons_zero, List.set_cons_succ]
            refine hTake 38 (Op.binOp BinOp.neq 4 (Operand.tmp 121) (Operand.tmp 126) 4) (some 127) (.bool false) (by kernel_rfl) (by kernel_rfl) (by kernel_rfl) (by kernel_rfl) (by kernel_rfl) (fun _ _ _ h => h) (fun o ho wX hX => by unfold execOp; simp only [ho]; go_simp) hHeld ?_
            simp only [Act.put, List.setIfInBounds_toArray, List.set_cons_zero, List.set_cons_succ]
            refine hTake 39 (Op.pick (Operand.tmp 120) (Operand.const (Value.bool true)) (Operand.tmp 127)) (some 128) (.bool false) (by kernel_rfl) (by kernel_rfl) (by kernel_rfl) (by kernel_rfl) (by kernel_rfl) (fun _ _ _ h => h) (fun o ho wX hX => by unfold execOp; simp only [ho]; go_simp) hHeld ?_
            simp only [Act.put, List.setIfInBounds_toArray, List.set_cons_zero, List.set_cons_succ]
            refine hMove 40 (Operand.tmp 128) (some 129) (.bool false) (by kernel_rfl) (by kernel_rfl) (by kernel_rfl) (by kernel_rfl) (by kernel_rfl) (fun _ _ _ h => h) (by exact rfl) hHeld ?_
            simp only [Act.put, List.setIfInBounds_toArray, List.set_cons_zero, List.set_cons_succ]
            refine hMove 41 (Operand.tmp 11) (some 130) (.bool false) (by kernel_rfl) (by kernel_rfl) (by kernel_rfl) (by kernel_rfl) (by kernel_rfl) (fun _ _ _ h => h) (by exact rfl) hHeld ?_
            simp only [Act.put, List.setIfInBounds_toArray, List.set_cons_zero, List.set_cons_succ]
            refine hTake 42 (Op.unOp UnOp.not 4 (Operand.tmp 130)) (some 131) (.bool true) (by kernel_rfl) (by kernel_rfl) (by kernel_rfl) (by kernel_rfl) (by kernel_rfl) (fun _ _ _ h => h) (fun o ho wX hX => by unfold execOp; simp only [ho]; go_simp) hHeld ?_
            simp only [Act.put, List.setIfInBounds_toArray, List.set_cons_zero, List.set_cons_succ]
            refine hMove 43 (Operand.tmp 131) (some 132) (.bool true) (by kernel_rfl) (by kernel_rfl) (by kernel_rfl) (by kernel_rfl) (by kernel_rfl) (fun _ _ _ h => h) (by exact rfl) hHeld ?_
            simp only [Act.put, List.setIfInBounds_toArray, List.set_cons_zero, List.set_cons_succ]
            refine hMove 44 (Operand.tmp 10) (some 133) (.int .i64 0) (by kernel_rfl) (by kernel_rfl) (by kernel_rfl) (by kernel_rfl) (by kernel_rfl) (fun _ _ _ h => h) (by exact rfl) hHeld ?_
            simp only [Act.put, List.setIfInBounds_toArray, List.set_cons_zero, List.set_cons_succ]
            refine hTake 45 (Op.binOp BinOp.neq 2 (Operand.tmp 133) (Operand.const (Value.int IntKind.i64 0)) 2) (some 134) (.bool false) (by kernel_rfl) (by kernel_rfl) (by kernel_rfl) (by kernel_rfl) (by kernel_rfl) (fun _ _ _ h => h) (fun o ho wX hX => by unfold execOp; simp only [ho]; go_simp) hHeld ?_
            simp only [Act.put, List.setIfInBounds_toArray, List.set_cons_zero, List.set_cons_succ]
            refine hTake 46 (Op.pick (Operand.tmp 132) (Operand.tmp 134) (Operand.const (Value.bool false))) (some 135) (.bool false) (by kernel_rfl) (by kernel_rfl) (by kernel_rfl) (by kernel_rfl) (by kernel_rfl) (fun _ _ _ h => h) (fun o ho wX hX => by unfold execOp; simp only [ho]; go_simp) hHeld ?_
            simp only [Act.put, List.setIfInBounds_toArray, List.set_cons_zero, List.set_cons_succ]
            refine hTake 47 (Op.pick (Operand.tmp 129) (Operand.const (Value.bool true)) (Operand.tmp 135)) (some 136) (.bool false) (by kernel_rfl) (by kernel_rfl) (by kernel_rfl) (by kernel_rfl) (by kernel_rfl) (fun _ _ _ h => h) (fun o ho wX hX => by unfold execOp; simp only [ho]; go_simp) hHeld ?_
            simp only [Act.put, List.setIfInBounds_toArray, List.set_cons_zero, List.set_cons_succ]
            refine wpAnyH_done (by kernel_rfl) ?_ _
            go_wp2_with fail
            refine ⟨⟨k + 1, F5, W5.length, W5, by omega, by go_num, hHeld.sn, hHeld.ix, HL5.out, by omega, hb7'.trans (hHeld.bel.mono hb7'.size)⟩, by simp [intOf]; omega⟩
          · have HMEM : Hid (decide ((dg o.dig, t) ∈ W5) = true) := Lib.hid (decide_eq_true ((HL5.out.mem _).2 ⟨⟨HDG.out, HL5.out.exp _ _ HDG.out hF⟩, hF⟩))
            have HEO : Hid (EntOk (dg o.dig, t)) := Lib.hid ⟨HDG.out, HL5.out.exp _ _ HDG.out hF⟩
            have hbuild := hbuild0 t
            have hent := hent0 t
            rw [hF, Option.isSome_some, Option.getD_some]
            clear hF hbuild0 hent0
            go_wp2_with fail
            refine held_start 48 (MS g b (k + 1) W5.length F5 (.slice A5 W5.length cap5) W5 dB (dg o.dig) b0 (off0 + k * 3 + 2) o.time w7) (by kernel_rfl) (by kernel_rfl) (HMS6.out.keep (Below.refl _ _).drew) (fun hHeld => ?_)
            refine hMove 0 (Operand.tmp 3) (some 89) (.pointer (some ⟨g, 0, none⟩)) (by kernel_rfl) (by kernel_rfl) (by kernel_rfl) (by kernel_rfl) (by kernel_rfl) (fun _ _ _ h => h) (by exact rfl) hHeld ?_
            simp only [Act.put, List.setIfInBounds_toArray, List.set_cons_zero, List.set_cons_succ]
            refine hMove 2 (Operand.tmp 4) (some 91) (.slice A5 W5.length cap5) (by kernel_rfl) (by kernel_rfl) (by kernel_rfl) (by kernel_rfl) (by kernel_rfl) (fun _ _ _ h => h) (by exact rfl) hHeld ?_
            simp only [Act.put, List.setIfInBounds_toArray, List.set_cons_zero, List.set_cons_succ]
            refine wpAnyH_ready (rs := [1]) (by kernel_rfl) (by simp) ?_
            refine rCall 1 (Op.call { callee := Callee.value (Operand.func 12), args := #[Operand.tmp 89, Operand.const (Value.int IntKind.i64 (-9223372036854775808))], argTypes := #[32, 2] }) (some 90) 12 (#[.pointer (some ⟨g, 0, none⟩), .int .i64 (-9223372036854775808)]) (by kernel_rfl) (by kernel_rfl) (fun o ho => by unfold execOp; simp only [ho]; go_simp) ?_ AllReadyH.nil
            refine (live_full g b (k + 1) W5.length F5 _ _ hHeld.ix (by omega)).mono ?_
            rintro e wL ⟨vL, L, rfl, hsL, hmL, hpL, hbL, _⟩
            have hLW : L = W5 := (Lists.of_live hmL hpL hHeld.ix.i64).eq HLM.out
            rw [hLW] at hsL
            clear hLW hmL hpL
            refine ⟨_, rfl, hHeld.keep hbL, fun hHeld => ?_⟩
            simp only [Act.put, List.setIfInBounds_toArray, List.set_cons_zero, List.set_cons_succ]
            refine wpAnyH_ready (rs := [3]) (by kernel_rfl) (by simp) ?_
            refine rCall 3 (Op.call { callee := Callee.value (Operand.func 13), args := #[Operand.tmp 90, Operand.tmp 91], argTypes := #[24, 24] }) (some 92) 13 (#[vL, .slice A5 W5.length cap5]) (by kernel_rfl) (by kernel_rfl) (fun o ho => by unfold execOp; simp only [ho]; go_simp) ?_ AllReadyH.nil
            refine (same_any _ _ W5 W5 _ hsL HOK5.out hHeld.sn HOK5.out (by omega) (by omega)).mono ?_
            rintro e wM ⟨rfl, hbM⟩
            rw [decide_eq_true rfl]
            refine ⟨_, rfl, hHeld.keep hbM, fun hHeld => ?_⟩
            simp only [Act.put, List.setIfInBounds_toArray, List.set_cons_zero, List.set_cons_succ]
            refine hTake 4 (Op.unOp UnOp.not 4 (Operand.tmp 92)) (some 93) (.bool false) (by kernel_rfl) (by kernel_rfl) (by kernel_rfl) (by kernel_rfl) (by kernel_rfl) (fun _ _ _ h => h) (fun o ho wX hX => by unfold execOp; simp only [ho]; go_simp) hHeld ?_
            simp only [Act.put, List.setIfInBounds_toArray, List.set_cons_zero, List.set_cons_succ]
            refine hMove 5 (Operand.tmp 93) (some 94) (.bool false) (by kernel_rfl) (by kernel_rfl) (by kernel_rfl) (by kernel_rfl) (by kernel_rfl) (fun _ _ _ h => h) (by exact rfl) hHeld ?_
            simp only [Act.put, List.setIfInBounds_toArray, List.set_cons_zero, List.set_cons_succ]
            refine hMove 6 (Operand.tmp 3) (some 95) (.pointer (some ⟨g, 0, none⟩)) (by kernel_rfl) (by kernel_rfl) (by kernel_rfl) (by kernel_rfl) (by kernel_rfl) (fun _ _ _ h => h) (by exact rfl) hHeld ?_
            simp only [Act.put, List.setIfInBounds_toArray, List.set_cons_zero, List.set_cons_succ]
            refine hMove 8 (Operand.tmp 4) (some 97) (.slice A5 W5.length cap5) (by kernel_rfl) (by kernel_rfl) (by kernel_rfl) (by kernel_rfl) (by kernel_rfl) (fun _ _ _ h => h) (by exact rfl) hHeld ?_
            simp only [Act.put, List.setIfInBounds_toArray, List.set_cons_zero, List.set_cons_succ]
            refine hTake 9 (Op.call { callee := Callee.builtin Builtin.len, args := #[Operand.tmp 97], argTypes := #[24] }) (some 98) (.int .i64 (W5.length : Int)) (by kernel_rfl) (by kernel_rfl) (by kernel_rfl) (by kernel_rfl) (by kernel_rfl) (fun _ _ _ h => h) (fun o ho wX hX => by unfold execOp; simp only [ho]; go_simp) hHeld ?_
            simp only [Act.put, List.setIfInBounds_toArray, List.set_cons_zero, List.set_cons_succ]
            refine wpAnyH_ready (rs := [7]) (by kernel_rfl) (by simp) ?_
            refine rCall 7 (Op.call { callee := Callee.value (Operand.func 17), args := #[Operand.tmp 95], argTypes := #[32] }) (some 96) 17 (#[.pointer (some ⟨g, 0, none⟩)]) (by kernel_rfl) (by kernel_rfl) (fun o ho => by unfold execOp; simp only [ho]; go_simp) ?_ AllReadyH.nil
            refine (count_any g b (k + 1) W5.length F5 _ hHeld.ix).mono ?_
            rintro e wN ⟨rfl, hwN⟩
            subst hwN
            refine ⟨_, rfl, hHeld, fun hHeld => ?_⟩
            simp only [Act.put, List.setIfInBounds_toArray, List.set_cons_zero, List.set_cons_succ]
            refine hTake 10 (Op.binOp BinOp.neq 3 (Operand.tmp 96) (Operand.tmp 98) 3) (some 99) (.bool false) (by kernel_rfl) (by kernel_rfl) (by kernel_rfl) (by kernel_rfl) (by kernel_rfl) (fun _ _ _ h => h) (fun o ho wX hX => by unfold execOp; simp only [ho]; go_simp) hHeld ?_
            simp only [Act.put, List.setIfInBounds_toArray, List.set_cons_zero, List.set_cons_succ]
            refine hTake 11 (Op.pick (Operand.tmp 94) (Operand.const (Value.bool true)) (Operand.tmp 99)) (some 100) (.bool false) (by kernel_rfl) (by kernel_rfl) (by kernel_rfl) (by kernel_rfl) (by kernel_rfl) (fun _ _ _ h => h) (fun o ho wX hX => by unfold execOp; simp only [ho]; go_simp) hHeld ?_
            simp only [Act.put, List.setIfInBounds_toArray, List.set_cons_zero, List.set_cons_succ]
            refine hMove 12 (Operand.tmp 100) (some 101) (.bool false) (by kernel_rfl) (by kernel_rfl) (by kernel_rfl) (by kernel_rfl) (by kernel_rfl) (fun _ _ _ h => h) (by exact rfl) hHeld ?_
            simp only [Act.put, List.setIfInBounds_toArray, List.set_cons_zero, List.set_cons_succ]
            refine hMove 13 (Operand.tmp 3) (some 102) (.pointer (some ⟨g, 0, none⟩)) (by kernel_rfl) (by kernel_rfl) (by kernel_rfl) (by kernel_rfl) (by kernel_rfl) (fun _ _ _ h => h) (by exact rfl) hHeld ?_
            simp only [Act.put, List.setIfInBounds_toArray, List.set_cons_zero, List.set_cons_succ]
            refine hLoad 14 26 (Operand.tmp 6) (some 103) (cs := u8s (dg o.dig)) (by kernel_rfl) (by kernel_rfl) (by kernel_rfl) (by kernel_rfl) (by kernel_rfl) (fun _ _ _ h => h) (by exact rfl) (fun _ hX => hX.dig) Try.underlying26 rfl HUI.out hHeld ?_
            simp only [Act.put, List.setIfInBounds_toArray, List.set_cons_zero, List.set_cons_succ]
            refine hMove 15 (Operand.tmp 0) (some 104) (.slice (some ⟨b0, off0, none⟩) l.length cap) (by kernel_rfl) (by kernel_rfl) (by kernel_rfl) (by kernel_rfl) (by kernel_rfl) (fun _ _ _ h => h) (by exact rfl) hHeld ?_
            simp only [Act.put, List.setIfInBounds_toArray, List.set_cons_zero, List.set_cons_succ]
            refine hMove 16 (Operand.tmp 5) (some 105) (.int .i64 k) (by kernel_rfl) (by kernel_rfl) (by kernel_rfl) (by kernel_rfl) (by kernel_rfl) (fun _ _ _ h => h) (by exact rfl) hHeld ?_
            simp only [Act.put, List.setIfInBounds_toArray, List.set_cons_zero, List.set_cons_succ]
            refine hTake 17 (Op.indexAddr 22 (Operand.tmp 104) (Operand.tmp 105)) (some 106) (.pointer (some ⟨b0, off0 + k * 3, none⟩)) (by kernel_rfl) (by kernel_rfl) (by kernel_rfl) (by kernel_rfl) (by kernel_rfl) (fun _ _ _ h => h) (fun o ho wX hX => by unfold execOp; simp only [ho]; go_simp) hHeld ?_
            simp only [Act.put, List.setIfInBounds_toArray, List.set_cons_zero, List.set_cons_succ]
            refine hTake 18 (Op.fieldAddr 29 (Operand.tmp 106) 2) (some 107) (.pointer (some ⟨b0, off0 + k * 3 + 2, none⟩)) (by kernel_rfl) (by kernel_rfl) (by kernel_rfl) (by kernel_rfl) (by kernel_rfl) (fun _ _ _ h => h) (fun o ho wX hX => by unfold execOp; simp only [ho]; go_simp) hHeld ?_
            simp only [Act.put, List.setIfInBounds_toArray, List.set_cons_zero, List.set_cons_succ]
            refine hTake 19 (Op.load 2 (Operand.tmp 107)) (some 108) (.int .i64 o.time) (by kernel_rfl) (by kernel_rfl) (by kernel_rfl) (by kernel_rfl) (by kernel_rfl) (fun _ _ _ h => h) (fun o ho wX hX => by have hcell := hX.tm; unfold execOp; simp only [ho]; go_simp) hHeld ?_
            simp only [Act.put, List.setIfInBounds_toArray, List.set_cons_zero, List.set_cons_succ]
            refine hMove 21 (Operand.tmp 4) (some 110) (.slice A5 W5.length cap5) (by kernel_rfl) (by kernel_rfl) (by kernel_rfl) (by kernel_rfl) (by kernel_rfl) (fun _ _ _ h => h) (by exact rfl) hHeld ?_
            simp only [Act.put, List.setIfInBounds_toArray, List.set_cons_zero, List.set_cons_succ]
            refine hLoad 22 26 (Operand.tmp 6) (some 111) (cs := u8s (dg o.dig)) (by kernel_rfl) (by kernel_rfl) (by kernel_rfl) (by kernel_rfl) (by kernel_rfl) (fun _ _ _ h => h) (by exact rfl) (fun _ hX => hX.dig) Try.underlying26 rfl HUI.out hHeld ?_
            simp only [Act.put, List.setIfInBounds_toArray, List.set_cons_zero, List.set_cons_succ]
            refine hMove 23 (Operand.tmp 0) (some 112) (.slice (some ⟨b0, off0, none⟩) l.length cap) (by kernel_rfl) (by kernel_rfl) (by kernel_rfl) (by kernel_rfl) (by kernel_rfl) (fun _ _ _ h => h) (by exact rfl) hHeld ?_
            simp only [Act.put, List.setIfInBounds_toArray, List.set_cons_zero, List.set_cons_succ]
            refine hMove 24 (Operand.tmp 5) (some 113) (.int .i64 k) (by kernel_rfl) (by kernel_rfl) (by kernel_rfl) (by kernel_rfl) (by kernel_rfl) (fun _ _ _ h => h) (by exact rfl) hHeld ?_
            simp only [Act.put, List.setIfInBounds_toArray, List.set_cons_zero, List.set_cons_succ]
            refine hTake 25 (Op.indexAddr 22 (Operand.tmp 112) (Operand.tmp 113)) (some 114) (.pointer (some ⟨b0, off0 + k * 3, none⟩)) (by kernel_rfl) (by kernel_rfl) (by kernel_rfl) (by kernel_rfl) (by kernel_rfl) (fun _ _ _ h => h) (fun o ho wX hX => by unfold execOp; simp only [ho]; go_simp) hHeld ?_
            simp only [Act.put, List.setIfInBounds_toArray, List.set_cons_zero, List.set_cons_succ]
            refine hTake 26 (Op.fieldAddr 29 (Operand.tmp 114) 2) (some 115) (.pointer (some ⟨b0, off0 + k * 3 + 2, none⟩)) (by kernel_rfl) (by kernel_rfl) (by kernel_rfl) (by kernel_rfl) (by kernel_rfl) (fun _ _ _ h => h) (fun o ho wX hX => by unfold execOp; simp only [ho]; go_simp) hHeld ?_
            simp only [Act.put, List.setIfInBounds_toArray, List.set_cons_zero, List.set_cons_succ]
            refine hTake 27 (Op.load 2 (Operand.tmp 115)) (some 116) (.int .i64 o.time) (by kernel_rfl) (by kernel_rfl) (by kernel_rfl) (by kernel_rfl) (by kernel_rfl) (fun _ _ _ h => h) (fun o ho wX hX => by have hcell := hX.tm; unfold execOp; simp only [ho]; go_simp) hHeld ?_
            simp only [Act.put, List.setIfInBounds_toArray, List.set_cons_zero, List.set_cons_succ]
            refine wpAnyH_ready (rs := [20]) (by kernel_rfl) (by simp) ?_
            refine rCall 20 (Op.call { callee := Callee.value (Operand.func 16), args := #[Operand.tmp 102, Operand.tmp 103, Operand.tmp 108], argTypes := #[32, 26, 2] }) (some 109) 16 (#[.pointer (some ⟨g, 0, none⟩), .agg (u8s (dg o.dig)).toArray, .int .i64 o.time]) (by kernel_rfl) (by kernel_rfl) (fun o ho => by unfold execOp; simp only [ho]; go_simp) ?_ AllReadyH.nil
            refine (has_any g b (k + 1) W5.length F5 (dg o.dig) o.time _ hHeld.ix HDG.out).mono ?_
            rintro e wP ⟨rfl, hbP⟩
            rw [HHV.out]
            refine ⟨_, rfl, hHeld.keep hbP, fun hHeld => ?_⟩
            simp only [Act.put, List.setIfInBounds_toArray, List.set_cons_zero, List.set_cons_succ]
            refine wpAnyH_ready (rs := [28]) (by kernel_rfl) (by simp) ?_
            refine rCall 28 (Op.call { callee := Callee.value (Operand.func 23), args := #[Operand.tmp 110, Operand.tmp 111, Operand.tmp 116], argTypes := #[24, 26, 2] }) (some 117) 23 (#[.slice A5 W5.length cap5, .agg (u8s (dg o.dig)).toArray, .int .i64 o.time]) (by kernel_rfl) (by kernel_rfl) (fun o ho => by unfold execOp; simp only [ho]; go_simp) ?_ AllReadyH.nil
            refine (ref_has_any _ W5 (dg o.dig) o.time _ hHeld.sn HOK5.out (by omega) HDG.out).mono ?_
            rintro e wQ ⟨rfl, hbQ⟩
            rw [HRV.out]
            refine ⟨_, rfl, hHeld.keep hbQ, fun hHeld => ?_⟩
            simp only [Act.put, List.setIfInBounds_toArray, List.set_cons_zero, List.set_cons_succ]
            refine hTake 29 (Op.binOp BinOp.neq 4 (Operand.tmp 109) (Operand.tmp 117) 4) (some 118) (.bool false) (by kernel_rfl) (by kernel_rfl) (by kernel_rfl) (by kernel_rfl) (by kernel_rfl) (fun _ _ _ h => h) (fun o ho wX hX => by unfold execOp; simp only [ho]; go_simp) hHeld ?_
            simp only [Act.put, List.setIfInBounds_toArray, List.set_cons_zero, List.set_cons_succ]
            refine hTake 30 (Op.pick (Operand.tmp 101) (Operand.const (Value.bool true)) (Operand.tmp 118)) (some 119) (.bool false) (by kernel_rfl) (by kernel_rfl) (by kernel_rfl) (by kernel_rfl) (by kernel_rfl) (fun _ _ _ h => h) (fun o ho wX hX => by unfold execOp; simp only [ho]; go_simp) hHeld ?_
            simp only [Act.put, List.setIfInBounds_toArray, List.set_cons_zero, List.set_cons_succ]
            refine hMove 31 (Operand.tmp 119) (some 120) (.bool false) (by kernel_rfl) (by kernel_rfl) (by kernel_rfl) (by kernel_rfl) (by kernel_rfl) (fun _ _ _ h => h) (by exact rfl) hHeld ?_
            simp only [Act.put, List.setIfInBounds_toArray, List.set_cons_zero, List.set_cons_succ]
            refine hMove 32 (Operand.tmp 11) (some 121) (.bool true) (by kernel_rfl) (by kernel_rfl) (by kernel_rfl) (by kernel_rfl) (by kernel_rfl) (fun _ _ _ h => h) (by exact rfl) hHeld ?_
            simp only [Act.put, List.setIfInBounds_toArray, List.set_cons_zero, List.set_cons_succ]
            refine hMove 33 (Operand.tmp 4) (some 122) (.slice A5 W5.length cap5) (by kernel_rfl) (by kernel_rfl) (by kernel_rfl) (by kernel_rfl) (by kernel_rfl) (fun _ _ _ h => h) (by exact rfl) hHeld ?_
            simp only [Act.put, List.setIfInBounds_toArray, List.set_cons_zero, List.set_cons_succ]
            refine hLoad 34 26 (Operand.tmp 6) (some 123) (cs := u8s (dg o.dig)) (by kernel_rfl) (by kernel_rfl) (by kernel_rfl) (by kernel_rfl) (by kernel_rfl) (fun _ _ _ h => h) (by exact rfl) (fun _ hX => hX.dig) Try.underlying26 rfl HUI.out hHeld ?_
            simp only [Act.put, List.setIfInBounds_toArray, List.set_cons_zero, List.set_cons_succ]
            refine hMove 35 (Operand.tmp 10) (some 124) (.int .i64 t) (by kernel_rfl) (by kernel_rfl) (by kernel_rfl) (by kernel_rfl) (by kernel_rfl) (fun _ _ _ h => h) (by exact rfl) hHeld ?_
            simp only [Act.put, List.setIfInBounds_toArray, List.set_cons_zero, List.set_cons_succ]
            refine hTake 36 (Op.build 31 #[(0, Operand.tmp 123), (1, Operand.tmp 124)]) (some 125) (.agg (entC (dg o.dig) t).toArray) (by kernel_rfl) (by kernel_rfl) (by kernel_rfl) (by kernel_rfl) (by kernel_rfl) (fun _ _ _ h => h) (fun o ho wX hX => by unfold execOp; simp only [ho]; go_simp) hHeld ?_
            simp only [Act.put, List.setIfInBounds_toArray, List.set_cons_zero, List.set_cons_succ]
            refine wpAnyH_ready (rs := [37]) (by kernel_rfl) (by simp) ?_
            refine rCall 37 (Op.call { callee := Callee.value (Operand.func 24), args := #[Operand.tmp 122, Operand.tmp 125], argTypes := #[24, 31] }) (some 126) 24 (#[.slice A5 W5.length cap5, .agg (entC (dg o.dig) t).toArray]) (by kernel_rfl) (by kernel_rfl) (fun o ho => by unfold execOp; simp only [ho]; go_simp) ?_ AllReadyH.nil
            refine (contains_any _ W5 (dg o.dig, t) _ hHeld.sn HOK5.out (by omega) HEO.out).mono ?_
            rintro e wR ⟨rfl, hbR⟩
            rw [HMEM.out]
            refine ⟨_, rfl, hHeld.keep hbR, fun hHeld => ?_⟩
            simp only [Act.put, List.setIfInBounds_toArray, List.set_cons_zero, List.set_cons_succ]
            refine hTake 38 (Op.binOp BinOp.neq 4 (Operand.tmp 121) (Operand.tmp 126) 4) (some 127) (.bool false) (by kernel_rfl) (by kernel_rfl) (by kernel_rfl) (by kernel_rfl) (by kernel_rfl) (fun _ _ _ h => h) (fun o ho wX hX => by unfold execOp; simp only [ho]; go_simp) hHeld ?_
            simp only [Act.put, List.setIfInBounds_toArray, List.set_cons_zero, List.set_cons_succ]
            refine hTake 39 (Op.pick (Operand.tmp 120) (Operand.const (Value.bool true)) (Operand.tmp 127)) (some 128) (.bool false) (by kernel_rfl) (by kernel_rfl) (by kernel_rfl) (by kernel_rfl) (by kernel_rfl) (fun _ _ _ h => h) (fun o ho wX hX => by unfold execOp; simp only [ho]; go_simp) hHeld ?_
            simp only [Act.put, List.setIfInBounds_toArray, List.set_cons_zero, List.set_cons_succ]
            refine hMove 40 (Operand.tmp 128) (some 129) (.bool false) (by kernel_rfl) (by kernel_rfl) (by kernel_rfl) (by kernel_rfl) (by kernel_rfl) (fun _ _ _ h => h) (by exact rfl) hHeld ?_
            simp only [Act.put, List.setIfInBounds_toArray, List.set_cons_zero, List.set_cons_succ]
            refine hMove 41 (Operand.tmp 11) (some 130) (.bool true) (by kernel_rfl) (by kernel_rfl) (by kernel_rfl) (by kernel_rfl) (by kernel_rfl) (fun _ _ _ h => h) (by exact rfl) hHeld ?_
            simp only [Act.put, List.setIfInBounds_toArray, List.set_cons_zero, List.set_cons_succ]
            refine hTake 42 (Op.unOp UnOp.not 4 (Operand.tmp 130)) (some 131) (.bool false) (by kernel_rfl) (by kernel_rfl) (by kernel_rfl) (by kernel_rfl) (by kernel_rfl) (fun _ _ _ h => h) (fun o ho wX hX => by unfold execOp; simp only [ho]; go_simp) hHeld ?_
            simp only [Act.put, List.setIfInBounds_toArray, List.set_cons_zero, List.set_cons_succ]
            refine hMove 43 (Operand.tmp 131) (some 132) (.bool false) (by kernel_rfl) (by kernel_rfl) (by kernel_rfl) (by kernel_rfl) (by kernel_rfl) (fun _ _ _ h => h) (by exact rfl) hHeld ?_
            simp only [Act.put, List.setIfInBounds_toArray, List.set_cons_zero, List.set_cons_succ]
            refine hSkip 44 (some 133) (by kernel_rfl) (by kernel_rfl) (by kernel_rfl) (by kernel_rfl) (by kernel_rfl) (fun _ _ _ h => h) hHeld ?_
            simp only [Act.put, List.setIfInBounds_toArray, List.set_cons_zero, List.set_cons_succ]
            refine hSkip 45 (some 134) (by kernel_rfl) (by kernel_rfl) (by kernel_rfl) (by kernel_rfl) (by kernel_rfl) (fun _ _ _ h => h) hHeld ?_
            simp only [Act.put, List.setIfInBounds_toArray, List.set_cons_zero, List.set_cons_succ]
            refine hTake 46 (Op.pick (Operand.tmp 132) (Operand.tmp 134) (Operand.const (Value.bool false))) (some 135) (.bool false) (by kernel_rfl) (by kernel_rfl) (by kernel_rfl) (by kernel_rfl) (by kernel_rfl) (fun _ _ _ h => h) (fun o ho wX hX => by unfold execOp; simp only [ho]; go_simp) hHeld ?_
            simp only [Act.put, List.setIfInBounds_toArray, List.set_cons_zero, List.set_cons_succ]
            refine hTake 47 (Op.pick (Operand.tmp 129) (Operand.const (Value.bool true)) (Operand.tmp 135)) (some 136) (.bool false) (by kernel_rfl) (by kernel_rfl) (by kernel_rfl) (by kernel_rfl) (by kernel_rfl) (fun _ _ _ h => h) (fun o ho wX hX => by unfold execOp; simp only [ho]; go_simp) hHeld ?_
            simp only [Act.put, List.setIfInBounds_toArray, List.set_cons_zero, List.set_cons_succ]
            refine wpAnyH_done (by kernel_rfl) ?_ _
            go_wp2_with fail
            refine ⟨⟨k + 1, F5, W5.length, W5, by omega, by go_num, hHeld.sn, hHeld.ix, HL5.out, by omega, hb7'.trans (hHeld.bel.mono hb7'.size)⟩, by simp [intOf]; omega⟩
        · obtain ⟨A4, cap4, e4, _, _, _⟩ := id HS3.out
          subst e4
          go_wp2_with (refine stNew 26 (.tmp 6) (.tmp 34) rfl rfl rfl rfl (by simp only [List.size_toArray, h32]; kernel_rfl) (by simp only [List.size_toArray, h32] <;> rfl) h1 ?_; intro wD hblk hbD hsD; have hkc := (HC.out wD (bstep hb3' hbD)).1; have htc := (HC.out wD (bstep hb3' hbD)).2.2)
          have hrd := Blk.range hblk
          rw [List.toList_toArray] at hrd
          obtain ⟨dB, hdB⟩ : ∃ x, x = w3.heap.size := ⟨_, rfl⟩
          rw [← hdB] at hrd ⊢
          have hbD1 := bstep hb3' hbD
          have hXD := hX3.keep hbD
          have HSD := Lib.hid (HS3.out.below hbD)
          have HRD := Lib.hid hrd
          clear hdB hkc htc hrd hblk hX3 HS3 hbD hsD
          refine (ref_live_any _ W o.time wD HSD.out HOKW.out (by omega)).mono ?_
          rintro e w4 ⟨v4, rfl, hs4, hb4⟩
          have hX4 := hXD.keep hb4
          have hb41 := bstep hbD1 hb4
          have HR4 : Hid (w4.rangeAt dB 0 (u8s (dg o.dig))) := Lib.hid (fun j u hj => Below.cell' hb4 (HRD.out j u hj))
          obtain ⟨F5, hF5⟩ : ∃ x, x = liveF F o.time := ⟨_, rfl⟩
          obtain ⟨W5, hW5⟩ : ∃ x, x = liveL W o.time := ⟨_, rfl⟩
          have hL5 : Lists F5 W5 := by rw [hF5, hW5]; exact HLW.out.live o.time
          have hWl5 : W5.length ≤ k := by
            rw [hW5]; unfold liveL
            have := List.length_filter_le (fun p : List Int × Int => decide (o.time ≤ p.2)) W
            omega
          rw [← hW5] at hs4
          obtain ⟨A5, cap5, e5, _, _, _⟩ := id hs4
          subst e5
          have htc4 := (HC.out w4 hb41).2.2
          have HS4 := Lib.hid hs4
          have HL5 := Lib.hid hL5
          have HF5 := Lib.hid hF5
          clear hb4 hXD HSD HRD hs4 hL5 hW5 hF5 hbD1
          go_wp2_with fail
          refine (drop_any g b k C F o.time w4 hX4 (by omega)).mono ?_
          rintro e w6 ⟨kd, c', rfl, hkc, hX6, hoff⟩
          rw [← HF5.out] at hX6
          have hc5 := HL5.out.count hX6.2.2
          have hsub : wrap64 ((W.length : Int) - (W5.length : Int)) = kd := by unfold wrap64; omega
          have hsub2 : ((kd : Int) != (W.length : Int) - (W5.length : Int)) = false := by simp; omega
          have hb6 : Below w1.heap.size w1 w6 := hb41.trans (hoff.below hbl hb41.size)
          have HS6 := Lib.hid (HS4.out.off hX4.2.2 hoff)
          have HD6 : Hid (w6.rangeAt dB 0 (u8s (dg o.dig))) := Lib.hid (fun j u hj => hoff.cell (HR4.out j u hj) (hX4.2.2.ne (HR4.out j u hj)))
          rw [hc5] at hX6
          replace hX6 := hX6.mono (Nat.le_succ k)
          clear hoff hX4 HS4 HR4 hb41 htc4 hkc hc5
          go_wp2_with (refine ld 26 _ rfl rfl rfl HD6.out hud rfl HUI.out ?_)
          refine (get_any g b (k + 1) W5.length F5 (dg o.dig) w6 hX6 HDG.out).mono ?_
          rintro e w7 ⟨rfl, hb7⟩
          have HMS6 : Hid (MS g b (k + 1) W5.length F5 (.slice A5 W5.length cap5) W5 dB (dg o.dig) b0 (off0 + k * 3 + 2) o.time w7 w7) := Lib.hid ⟨hX6.keep hb7, HS6.out.below hb7, fun j u hj => Below.cell' hb7 (HD6.out j u hj), (HC.out w7 (bstep hb6 hb7)).2.2, Below.refl _ _⟩
          have hb7' := bstep hb6 hb7
          have HLM := Lib.hid HL5.out.min
          have HOK5 : Hid (∀ p ∈ W5, EntOk p) := Lib.hid (fun p hp => ((HL5.out.mem p).1 hp).1)
          obtain ⟨hv, hhv⟩ : ∃ x, x = ((F5 (dg o.dig)).isSome && decide (o.time ≤ (F5 (dg o.dig)).getD 0)) := ⟨_, rfl⟩
          have HHV := Lib.hid hhv.symm
          have HRV : Hid ((W5.any fun p => decide (p.1 = dg o.dig) && decide (o.time ≤ p.2)) = hv) := Lib.hid ((HL5.out.has HDG.out o.time).trans hhv.symm)
          have HF : Hid (F5 (dg o.dig) = none ∨ ∃ t, F5 (dg o.dig) = some t) := Lib.hid (by cases F5 (dg o.dig) <;> simp)
          have hent0 := fun t => entC_length HDG.out t
          have hbuild0 := fun t => build_ent (dg o.dig) t HDG.out.len
          have hbuild3 := build_size
          clear hhv hb6 hb7 hX6 HS6 HD6 hud h1 HEO1 HUE
          rcases HF.out with hF | ⟨t, hF⟩
          · have HMEM : Hid (decide ((dg o.dig, (0 : Int)) ∈ W5) = false) := Lib.hid (decide_eq_false fun h => by
              have := ((HL5.out.mem _).1 h).2
              simp only at this
              rw [hF] at this
              cases this)
            have HEO : Hid (EntOk (dg o.dig, (0 : Int))) := Lib.hid ⟨HDG.out, by show isI64 0; unfold isI64; omega⟩
            have hbuild := hbuild0 0
            have hent := hent0 0
            rw [hF, Option.isSome_none, Option.getD_none]
            clear hF hbuild0 hent0
            go_wp2_with fail
            refine held_start 48 (MS g b (k + 1) W5.length F5 (.slice A5 W5.length cap5) W5 dB (dg o.dig) b0 (off0 + k * 3 + 2) o.time w7) (by kernel_rfl) (by kernel_rfl) (HMS6.out.keep (Below.refl _ _).drew) (fun hHeld => ?_)
            refine hMove 0 (Operand.tmp 3) (some 89) (.pointer (some ⟨g, 0, none⟩)) (by kernel_rfl) (by kernel_rfl) (by kernel_rfl) (by kernel_rfl) (by kernel_rfl) (fun _ _ _ h => h) (by exact rfl) hHeld ?_
            simp only [Act.put, List.setIfInBounds_toArray, List.set_cons_zero, List.set_cons_succ]
            refine hMove 2 (Operand.tmp 4) (some 91) (.slice A5 W5.length cap5) (by kernel_rfl) (by kernel_rfl) (by kernel_rfl) (by kernel_rfl) (by kernel_rfl) (fun _ _ _ h => h) (by exact rfl) hHeld ?_
            simp only [Act.put, List.setIfInBounds_toArray, List.set_cons_zero, List.set_cons_succ]
            refine wpAnyH_ready (rs := [1]) (by kernel_rfl) (by simp) ?_
            refine rCall 1 (Op.call { callee := Callee.value (Operand.func 12), args := #[Operand.tmp 89, Operand.const (Value.int IntKind.i64 (-9223372036854775808))], argTypes := #[32, 2] }) (some 90) 12 (#[.pointer (some ⟨g, 0, none⟩), .int .i64 (-9223372036854775808)]) (by kernel_rfl) (by kernel_rfl) (fun o ho => by unfold execOp; simp only [ho]; go_simp) ?_ AllReadyH.nil
            refine (live_full g b (k + 1) W5.length F5 _ _ hHeld.ix (by omega)).mono ?_
            rintro e wL ⟨vL, L, rfl, hsL, hmL, hpL, hbL, _⟩
            have hLW : L = W5 := (Lists.of_live hmL hpL hHeld.ix.i64).eq HLM.out
            rw [hLW] at hsL
            clear hLW hmL hpL
            refine ⟨_, rfl, hHeld.keep hbL, fun hHeld => ?_⟩
            simp only [Act.put, List.setIfInBounds_toArray, List.set_cons_zero, List.set_cons_succ]
            refine wpAnyH_ready (rs := [3]) (by kernel_rfl) (by simp) ?_
            refine rCall 3 (Op.call { callee := Callee.value (Operand.func 13), args := #[Operand.tmp 90, Operand.tmp 91], argTypes := #[24, 24] }) (some 92) 13 (#[vL, .slice A5 W5.length cap5]) (by kernel_rfl) (by kernel_rfl) (fun o ho => by unfold execOp; simp only [ho]; go_simp) ?_ AllReadyH.nil
            refine (same_any _ _ W5 W5 _ hsL HOK5.out hHeld.sn HOK5.out (by omega) (by omega)).mono ?_
            rintro e wM ⟨rfl, hbM⟩
            rw [decide_eq_true rfl]
            refine ⟨_, rfl, hHeld.keep hbM, fun hHeld => ?_⟩
            simp only [Act.put, List.setIfInBounds_toArray, List.set_cons_zero, List.set_cons_succ]
            refine hTake 4 (Op.unOp UnOp.not 4 (Operand.tmp 92)) (some 93) (.bool false) (by kernel_rfl) (by kernel_rfl) (by kernel_rfl) (by kernel_rfl) (by kernel_rfl) (fun _ _ _ h => h) (fun o ho wX hX => by unfold execOp; simp only [ho]; go_simp) hHeld ?_
            simp only [Act.put, List.setIfInBounds_toArray, List.set_cons_zero, List.set_cons_succ]
            refine hMove 5 (Operand.tmp 93) (some 94) (.bool false) (by kernel_rfl) (by kernel_rfl) (by kernel_rfl) (by kernel_rfl) (by kernel_rfl) (fun _ _ _ h => h) (by exact rfl) hHeld ?_
            simp only [Act.put, List.setIfInBounds_toArray, List.set_cons_zero, List.set_cons_succ]
            refine hMove 6 (Operand.tmp 3) (some 95) (.pointer (some ⟨g, 0, none⟩)) (by kernel_rfl) (by kernel_rfl) (by kernel_rfl) (by kernel_rfl) (by kernel_rfl) (fun _ _ _ h => h) (by exact rfl) hHeld ?_
            simp only [Act.put, List.setIfInBounds_toArray, List.set_cons_zero, List.set_cons_succ]
            refine hMove 8 (Operand.tmp 4) (some 97) (.slice A5 W5.length cap5) (by kernel_rfl) (by kernel_rfl) (by kernel_rfl) (by kernel_rfl) (by kernel_rfl) (fun _ _ _ h => h) (by exact rfl) hHeld ?_
            simp only [Act.put, List.setIfInBounds_toArray, List.set_cons_zero, List.set_cons_succ]
            refine hTake 9 (Op.call { callee := Callee.builtin Builtin.len, args := #[Operand.tmp 97], argTypes := #[24] }) (some 98) (.int .i64 (W5.length : Int)) (by kernel_rfl) (by kernel_rfl) (by kernel_rfl) (by kernel_rfl) (by kernel_rfl) (fun _ _ _ h => h) (fun o ho wX hX => by unfold execOp; simp only [ho]; go_simp) hHeld ?_
            simp only [Act.put, List.setIfInBounds_toArray, List.set_cons_zero, List.set_cons_succ]
            refine wpAnyH_ready (rs := [7]) (by kernel_rfl) (by simp) ?_
            refine rCall 7 (Op.call { callee := Callee.value (Operand.func 17), args := #[Operand.tmp 95], argTypes := #[32] }) (some 96) 17 (#[.pointer (some ⟨g, 0, none⟩)]) (by kernel_rfl) (by kernel_rfl) (fun o ho => by unfold execOp; simp only [ho]; go_simp) ?_ AllReadyH.nil
            refine (count_any g b (k + 1) W5.length F5 _ hHeld.ix).mono ?_
            rintro e wN ⟨rfl, hwN⟩
            subst hwN
            refine ⟨_, rfl, hHeld, fun hHeld => ?_⟩
            simp only [Act.put, List.setIfInBounds_toArray, List.set_cons_zero, List.set_cons_succ]
            refine hTake 10 (Op.binOp BinOp.neq 3 (Operand.tmp 96) (Operand.tmp 98) 3) (some 99) (.bool false) (by kernel_rfl) (by kernel_rfl) (by kernel_rfl) (by kernel_rfl) (by kernel_rfl) (fun _ _ _ h => h) (fun o ho wX hX => by unfold execOp; simp only [ho]; go_simp) hHeld ?_
            simp only [Act.put, List.setIfInBounds_toArray, List.set_cons_zero, List.set_cons_succ]
            refine hTake 11 (Op.pick (Operand.tmp 94) (Operand.const (Value.bool true)) (Operand.tmp 99)) (some 100) (.bool false) (by kernel_rfl) (by kernel_rfl) (by kernel_rfl) (by kernel_rfl) (by kernel_rfl) (fun _ _ _ h => h) (fun o ho wX hX => by unfold execOp; simp only [ho]; go_simp) hHeld ?_
            simp only [Act.put, List.setIfInBounds_toArray, List.set_cons_zero, List.set_cons_succ]
            refine hMove 12 (Operand.tmp 100) (some 101) (.bool false) (by kernel_rfl) (by kernel_rfl) (by kernel_rfl) (by kernel_rfl) (by kernel_rfl) (fun _ _ _ h => h) (by exact rfl) hHeld ?_
            simp only [Act.put, List.setIfInBounds_toArray, List.set_cons_zero, List.set_cons_succ]
            refine hMove 13 (Operand.tmp 3) (some 102) (.pointer (some ⟨g, 0, none⟩)) (by kernel_rfl) (by kernel_rfl) (by kernel_rfl) (by kernel_rfl) (by kernel_rfl) (fun _ _ _ h => h) (by exact rfl) hHeld ?_
            simp only [Act.put, List.setIfInBounds_toArray, List.set_cons_zero, List.set_cons_succ]
            refine hLoad 14 26 (Operand.tmp 6) (some 103) (cs := u8s (dg o.dig)) (by kernel_rfl) (by kernel_rfl) (by kernel_rfl) (by kernel_rfl) (by kernel_rfl) (fun _ _ _ h => h) (by exact rfl) (fun _ hX => hX.dig) Try.underlying26 rfl HUI.out hHeld ?_
            simp only [Act.put, List.setIfInBounds_toArray, List.set_cons_zero, List.set_cons_succ]
            refine hMove 15 (Operand.tmp 0) (some 104) (.slice (some ⟨b0, off0, none⟩) l.length cap) (by kernel_rfl) (by kernel_rfl) (by kernel_rfl) (by kernel_rfl) (by kernel_rfl) (fun _ _ _ h => h) (by exact rfl) hHeld ?_
            simp only [Act.put, List.setIfInBounds_toArray, List.set_cons_zero, List.set_cons_succ]
            refine hMove 16 (Operand.tmp 5) (some 105) (.int .i64 k) (by kernel_rfl) (by kernel_rfl) (by kernel_rfl) (by kernel_rfl) (by kernel_rfl) (fun _ _ _ h => h) (by exact rfl) hHeld ?_
            simp only [Act.put, List.setIfInBounds_toArray, List.set_cons_zero, List.set_cons_succ]
            refine hTake 17 (Op.indexAddr 22 (Operand.tmp 104) (Operand.tmp 105)) (some 106) (.pointer (some ⟨b0, off0 + k * 3, none⟩)) (by kernel_rfl) (by kernel_rfl) (by kernel_rfl) (by kernel_rfl) (by kernel_rfl) (fun _ _ _ h => h) (fun o ho wX hX => by unfold execOp; simp only [ho]; go_simp) hHeld ?_
            simp only [Act.put, List.setIfInBounds_toArray, List.set_cons_zero, List.set_cons_succ]
            refine hTake 18 (Op.fieldAddr 29 (Operand.tmp 106) 2) (some 107) (.pointer (some ⟨b0, off0 + k * 3 + 2, none⟩)) (by kernel_rfl) (by kernel_rfl) (by kernel_rfl) (by kernel_rfl) (by kernel_rfl) (fun _ _ _ h => h) (fun o ho wX hX => by unfold execOp; simp only [ho]; go_simp) hHeld ?_
            simp only [Act.put, List.setIfInBounds_toArray, List.set_cons_zero, List.set_cons_succ]
            refine hTake 19 (Op.load 2 (Operand.tmp 107)) (some 108) (.int .i64 o.time) (by kernel_rfl) (by kernel_rfl) (by kernel_rfl) (by kernel_rfl) (by kernel_rfl) (fun _ _ _ h => h) (fun o ho wX hX => by have hcell := hX.tm; unfold execOp; simp only [ho]; go_simp) hHeld ?_
            simp only [Act.put, List.setIfInBounds_toArray, List.set_cons_zero, List.set_cons_succ]
            refine hMove 21 (Operand.tmp 4) (some 110) (.slice A5 W5.length cap5) (by kernel_rfl) (by kernel_rfl) (by kernel_rfl) (by kernel_rfl) (by kernel_rfl) (fun _ _ _ h => h) (by exact rfl) hHeld ?_
            simp only [Act.put, List.setIfInBounds_toArray, List.set_cons_zero, List.set_cons_succ]
            refine hLoad 22 26 (Operand.tmp 6) (some 111) (cs := u8s (dg o.dig)) (by kernel_rfl) (by kernel_rfl) (by kernel_rfl) (by kernel_rfl) (by kernel_rfl) (fun _ _ _ h => h) (by exact rfl) (fun _ hX => hX.dig) Try.underlying26 rfl HUI.out hHeld ?_
            simp only [Act.put, List.setIfInBounds_toArray, List.set_cons_zero, List.set_cons_succ]
            refine hMove 23 (Operand.tmp 0) (some 112) (.slice (some ⟨b0, off0, none⟩) l.length cap) (by kernel_rfl) (by kernel_rfl) (by kernel_rfl) (by kernel_rfl) (by kernel_rfl) (fun _ _ _ h => h) (by exact rfl) hHeld ?_
            simp only [Act.put, List.setIfInBounds_toArray, List.set_cons_zero, List.set_cons_succ]
            refine hMove 24 (Operand.tmp 5) (some 113) (.int .i64 k) (by kernel_rfl) (by kernel_rfl) (by kernel_rfl) (by kernel_rfl) (by kernel_rfl) (fun _ _ _ h => h) (by exact rfl) hHeld ?_
            simp only [Act.put, List.setIfInBounds_toArray, List.set_cons_zero, List.set_cons_succ]
            refine hTake 25 (Op.indexAddr 22 (Operand.tmp 112) (Operand.tmp 113)) (some 114) (.pointer (some ⟨b0, off0 + k * 3, none⟩)) (by kernel_rfl) (by kernel_rfl) (by kernel_rfl) (by kernel_rfl) (by kernel_rfl) (fun _ _ _ h => h) (fun o ho wX hX => by unfold execOp; simp only [ho]; go_simp) hHeld ?_
            simp only [Act.put, List.setIfInBounds_toArray, List.set_cons_zero, List.set_cons_succ]
            refine hTake 26 (Op.fieldAddr 29 (Operand.tmp 114) 2) (some 115) (.pointer (some ⟨b0, off0 + k * 3 + 2, none⟩)) (by kernel_rfl) (by kernel_rfl) (by kernel_rfl) (by kernel_rfl) (by kernel_rfl) (fun _ _ _ h => h) (fun o ho wX hX => by unfold execOp; simp only [ho]; go_simp) hHeld ?_
            simp only [Act.put, List.setIfInBounds_toArray, List.set_cons_zero, List.set_cons_succ]
            refine hTake 27 (Op.load 2 (Operand.tmp 115)) (some 116) (.int .i64 o.time) (by kernel_rfl) (by kernel_rfl) (by kernel_rfl) (by kernel_rfl) (by kernel_rfl) (fun _ _ _ h => h) (fun o ho wX hX => by have hcell := hX.tm; unfold execOp; simp only [ho]; go_simp) hHeld ?_
            simp only [Act.put, List.setIfInBounds_toArray, List.set_cons_zero, List.set_cons_succ]
            refine wpAnyH_ready (rs := [20]) (by kernel_rfl) (by simp) ?_
            refine rCall 20 (Op.call { callee := Callee.value (Operand.func 16), args := #[Operand.tmp 102, Operand.tmp 103, Operand.tmp 108], argTypes := #[32, 26, 2] }) (some 109) 16 (#[.pointer (some ⟨g, 0, none⟩), .agg (u8s (dg o.dig)).toArray, .int .i64 o.time]) (by kernel_rfl) (by kernel_rfl) (fun o ho => by unfold execOp; simp only [ho]; go_simp) ?_ AllReadyH.nil
            refine (has_any g b (k + 1) W5.length F5 (dg o.dig) o.time _ hHeld.ix HDG.out).mono ?_
            rintro e wP ⟨rfl, hbP⟩
            rw [HHV.out]
            refine ⟨_, rfl, hHeld.keep hbP, fun hHeld => ?_⟩
            simp only [Act.put, List.setIfInBounds_toArray, List.set_cons_zero, List.set_cons_succ]
            refine wpAnyH_ready (rs := [28]) (by kernel_rfl) (by simp) ?_
            refine rCall 28 (Op.call { callee := Callee.value (Operand.func 23), args := #[Operand.tmp 110, Operand.tmp 111, Operand.tmp 116], argTypes := #[24, 26, 2] }) (some 117) 23 (#[.slice A5 W5.length cap5, .agg (u8s (dg o.dig)).toArray, .int .i64 o.time]) (by kernel_rfl) (by kernel_rfl) (fun o ho => by unfold execOp; simp only [ho]; go_simp) ?_ AllReadyH.nil
            refine (ref_has_any _ W5 (dg o.dig) o.time _ hHeld.sn HOK5.out (by omega) HDG.out).mono ?_
            rintro e wQ ⟨rfl, hbQ⟩
            rw [HRV.out]
            refine ⟨_, rfl, hHeld.keep hbQ, fun hHeld => ?_⟩
            simp only [Act.put, List.setIfInBounds_toArray, List.set_cons_zero, List.set_cons_succ]
            refine hTake 29 (Op.binOp BinOp.neq 4 (Operand.tmp 109) (Operand.tmp 117) 4) (some 118) (.bool false) (by kernel_rfl) (by kernel_rfl) (by kernel_rfl) (by kernel_rfl) (by kernel_rfl) (fun _ _ _ h => h) (fun o ho wX hX => by unfold execOp; simp only [ho]; go_simp) hHeld ?_
            simp only [Act.put, List.setIfInBounds_toArray, List.set_cons_zero, List.set_cons_succ]
            refine hTake 30 (Op.pick (Operand.tmp 101) (Operand.const (Value.bool true)) (Operand.tmp 118)) (some 119) (.bool false) (by kernel_rfl) (by kernel_rfl) (by kernel_rfl) (by kernel_rfl) (by kernel_rfl) (fun _ _ _ h => h) (fun o ho wX hX => by unfold execOp; simp only [ho]; go_simp) hHeld ?_
            simp only [Act.put, List.setIfInBounds_toArray, List.set_cons_zero, List.set_cons_succ]
            refine hMove 31 (Operand.tmp 119) (some 120) (.bool false) (by kernel_rfl) (by kernel_rfl) (by kernel_rfl) (by kernel_rfl) (by kernel_rfl) (fun _ _ _ h => h) (by exact rfl) hHeld ?_
            simp only [Act.put, List.setIfInBounds_toArray, List.set_cons_zero, List.set_cons_succ]
            refine hMove 32 (Operand.tmp 11) (some 121) (.bool false) (by kernel_rfl) (by kernel_rfl) (by kernel_rfl) (by kernel_rfl) (by kernel_rfl) (fun _ _ _ h => h) (by exact rfl) hHeld ?_
            simp only [Act.put, List.setIfInBounds_toArray, List.set_cons_zero, List.set_cons_succ]
            refine hMove 33 (Operand.tmp 4) (some 122) (.slice A5 W5.length cap5) (by kernel_rfl) (by kernel_rfl) (by kernel_rfl) (by kernel_rfl) (by kernel_rfl) (fun _ _ _ h => h) (by exact rfl) hHeld ?_
            simp only [Act.put, List.setIfInBounds_toArray, List.set_cons_zero, List.set_cons_succ]
            refine hLoad 34 26 (Operand.tmp 6) (some 123) (cs := u8s (dg o.dig)) (by kernel_rfl) (by kernel_rfl) (by kernel_rfl) (by kernel_rfl) (by kernel_rfl) (fun _ _ _ h => h) (by exact rfl) (fun _ hX => hX.dig) Try.underlying26 rfl HUI.out hHeld ?_
            simp only [Act.put, List.setIfInBounds_toArray, List.set_cons_zero, List.set_cons_succ]
            refine hMove 35 (Operand.tmp 10) (some 124) (.int .i64 0) (by kernel_rfl) (by kernel_rfl) (by kernel_rfl) (by kernel_rfl) (by kernel_rfl) (fun _ _ _ h => h) (by exact rfl) hHeld ?_
            simp only [Act.put, List.setIfInBounds_toArray, List.set_cons_zero, List.set_cons_succ]
            refine hTake 36 (Op.build 31 #[(0, Operand.tmp 123), (1, Operand.tmp 124)]) (some 125) (.agg (entC (dg o.dig) 0).toArray) (by kernel_rfl) (by kernel_rfl) (by kernel_rfl) (by kernel_rfl) (by kernel_rfl) (fun _ _ _ h => h) (fun o ho wX hX => by unfold execOp; simp only [ho]; go_simp) hHeld ?_
            simp only [Act.put, List.setIfInBounds_toArray, List.set_cons_zero, List.set_cons_succ]
            refine wpAnyH_ready (rs := [37]) (by kernel_rfl) (by simp) ?_
            refine rCall 37 (Op.call { callee := Callee.value (Operand.func 24), args := #[Operand.tmp 122, Operand.tmp 125], argTypes := #[24, 31] }) (some 126) 24 (#[.slice A5 W5.length cap5, .agg (entC (dg o.dig) 0).toArray]) (by kernel_rfl) (by kernel_rfl) (fun o ho => by unfold execOp; simp only [ho]; go_simp) ?_ AllReadyH.nil
            refine (contains_any _ W5 (dg o.dig, 0) _ hHeld.sn HOK5.out (by omega) HEO.out).mono ?_
            rintro e wR ⟨rfl, hbR⟩
            rw [HMEM.out]
            refine ⟨_, rfl, hHeld.keep hbR, fun hHeld => ?_⟩
            simp only [Act.put, List.setIfInBounds_toArray, List.set_cons_zero, List.set_cons_succ]
            refine hTake 38 (Op.binOp BinOp.neq 4 (Operand.tmp 121) (Operand.tmp 126) 4) (some 127) (.bool false) (by kernel_rfl) (by kernel_rfl) (by kernel_rfl) (by kernel_rfl) (by kernel_rfl) (fun _ _ _ h => h) (fun o ho wX hX => by unfold execOp; simp only [ho]; go_simp) hHeld ?_
            simp only [Act.put, List.setIfInBounds_toArray, List.set_cons_zero, List.set_cons_succ]
            refine hTake 39 (Op.pick (Operand.tmp 120) (Operand.const (Value.bool true)) (Operand.tmp 127)) (some 128) (.bool false) (by kernel_rfl) (by kernel_rfl) (by kernel_rfl) (by kernel_rfl) (by kernel_rfl) (fun _ _ _ h => h) (fun o ho wX hX => by unfold execOp; simp only [ho]; go_simp) hHeld ?_
            simp only [Act.put, List.setIfInBounds_toArray, List.set_cons_zero, List.set_cons_succ]
            refine hMove 40 (Operand.tmp 128) (some 129) (.bool false) (by kernel_rfl) (by kernel_rfl) (by kernel_rfl) (by kernel_rfl) (by kernel_rfl) (fun _ _ _ h => h) (by exact rfl) hHeld ?_
            simp only [Act.put, List.setIfInBounds_toArray, List.set_cons_zero, List.set_cons_succ]
            refine hMove 41 (Operand.tmp 11) (some 130) (.bool false) (by kernel_rfl) (by kernel_rfl) (by kernel_rfl) (by kernel_rfl) (by kernel_rfl) (fun _ _ _ h => h) (by exact rfl) hHeld ?_
            simp only [Act.put, List.setIfInBounds_toArray, List.set_cons_zero, List.set_cons_succ]
            refine hTake 42 (Op.unOp UnOp.not 4 (Operand.tmp 130)) (some 131) (.bool true) (by kernel_rfl) (by kernel_rfl) (by kernel_rfl) (by kernel_rfl) (by kernel_rfl) (fun _ _ _ h => h) (fun o ho wX hX => by unfold execOp; simp only [ho]; go_simp) hHeld ?_
            simp only [Act.put, List.setIfInBounds_toArray, List.set_cons_zero, List.set_cons_succ]
            refine hMove 43 (Operand.tmp 131) (some 132) (.bool true) (by kernel_rfl) (by kernel_rfl) (by kernel_rfl) (by kernel_rfl) (by kernel_rfl) (fun _ _ _ h => h) (by exact rfl) hHeld ?_
            simp only [Act.put, List.setIfInBounds_toArray, List.set_cons_zero, List.set_cons_succ]
            refine hMove 44 (Operand.tmp 10) (some 133) (.int .i64 0) (by kernel_rfl) (by kernel_rfl) (by kernel_rfl) (by kernel_rfl) (by kernel_rfl) (fun _ _ _ h => h) (by exact rfl) hHeld ?_
            simp only [Act.put, List.setIfInBounds_toArray, List.set_cons_zero, List.set_cons_succ]
            refine hTake 45 (Op.binOp BinOp.neq 2 (Operand.tmp 133) (Operand.const (Value.int IntKind.i64 0)) 2) (some 134) (.bool false) (by kernel_rfl) (by kernel_rfl) (by kernel_rfl) (by kernel_rfl) (by kernel_rfl) (fun _ _ _ h => h) (fun o ho wX hX => by unfold execOp; simp only [ho]; go_simp) hHeld ?_
            simp only [Act.put, List.setIfInBounds_toArray, List.set_cons_zero, List.set_cons_succ]
            refine hTake 46 (Op.pick (Operand.tmp 132) (Operand.tmp 134) (Operand.const (Value.bool false))) (some 135) (.bool false) (by kernel_rfl) (by kernel_rfl) (by kernel_rfl) (by kernel_rfl) (by kernel_rfl) (fun _ _ _ h => h) (fun o ho wX hX => by unfold execOp; simp only [ho]; go_simp) hHeld ?_
            simp only [Act.put, List.setIfInBounds_toArray, List.set_cons_zero, List.set_cons_succ]
            refine hTake 47 (Op.pick (Operand.tmp 129) (Operand.const (Value.bool true)) (Operand.tmp 135)) (some 136) (.bool false) (by kernel_rfl) (by kernel_rfl) (by kernel_rfl) (by kernel_rfl) (by kernel_rfl) (fun _ _ _ h => h) (fun o ho wX hX => by unfold execOp; simp only [ho]; go_simp) hHeld ?_
            simp only [Act.put, List.setIfInBounds_toArray, List.set_cons_zero, List.set_cons_succ]
            refine wpAnyH_done (by kernel_rfl) ?_ _
            go_wp2_with fail
            refine ⟨⟨k + 1, F5, W5.length, W5, by omega, by go_num, hHeld.sn, hHeld.ix, HL5.out, by omega, hb7'.trans (hHeld.bel.mono hb7'.size)⟩, by simp [intOf]; omega⟩
          · have HMEM : Hid (decide ((dg o.dig, t) ∈ W5) = true) := Lib.hid (decide_eq_true ((HL5.out.mem _).2 ⟨⟨HDG.out, HL5.out.exp _ _ HDG.out hF⟩, hF⟩))
            have HEO : Hid (EntOk (dg o.dig, t)) := Lib.hid ⟨HDG.out, HL5.out.exp _ _ HDG.out hF⟩
            have hbuild := hbuild0 t
            have hent := hent0 t
            rw [hF, Option.isSome_some, Option.getD_some]
            clear hF hbuild0 hent0
            go_wp2_with fail
            refine held_start 48 (MS g b (k + 1) W5.length F5 (.slice A5 W5.length cap5) W5 dB (dg o.dig) b0 (off0 + k * 3 + 2) o.time w7) (by kernel_rfl) (by kernel_rfl) (HMS6.out.keep (Below.refl _ _).drew) (fun hHeld => ?_)
            refine hMove 0 (Operand.tmp 3) (some 89) (.pointer (some ⟨g, 0, none⟩)) (by kernel_rfl) (by kernel_rfl) (by kernel_rfl) (by kernel_rfl) (by kernel_rfl) (fun _ _ _ h => h) (by exact rfl) hHeld ?_
            simp only [Act.put, List.setIfInBounds_toArray, List.set_cons_zero, List.set_cons_succ]
            refine hMove 2 (Operand.tmp 4) (some 91) (.slice A5 W5.length cap5) (by kernel_rfl) (by kernel_rfl) (by kernel_rfl) (by kernel_rfl) (by kernel_rfl) (fun _ _ _ h => h) (by exact rfl) hHeld ?_
            simp only [Act.put, List.setIfInBounds_toArray, List.set_cons_zero, List.set_cons_succ]
            refine wpAnyH_ready (rs := [1]) (by kernel_rfl) (by simp) ?_
            refine rCall 1 (Op.call { callee := Callee.value (Operand.func 12), args := #[Operand.tmp 89, Operand.const (Value.int IntKind.i64 (-9223372036854775808))], argTypes := #[32, 2] }) (some 90) 12 (#[.pointer (some ⟨g, 0, none⟩), .int .i64 (-9223372036854775808)]) (by kernel_rfl) (by kernel_rfl) (fun o ho => by unfold execOp; simp only [ho]; go_simp) ?_ AllReadyH.nil
            refine (live_full g b (k + 1) W5.length F5 _ _ hHeld.ix (by omega)).mono ?_
            rintro e wL ⟨vL, L, rfl, hsL, hmL, hpL, hbL, _⟩
            have hLW : L = W5 := (Lists.of_live hmL hpL hHeld.ix.i64).eq HLM.out
            rw [hLW] at hsL
            clear hLW hmL hpL
            refine ⟨_, rfl, hHeld.keep hbL, fun hHeld => ?_⟩
            simp only [Act.put, List.setIfInBounds_toArray, List.set_cons_zero, List.set_cons_succ]
            refine wpAnyH_ready (rs := [3]) (by kernel_rfl) (by simp) ?_
            refine rCall 3 (Op.call { callee := Callee.value (Operand.func 13), args := #[Operand.tmp 90, Operand.tmp 91], argTypes := #[24, 24] }) (some 92) 13 (#[vL, .slice A5 W5.length cap5]) (by kernel_rfl) (by kernel_rfl) (fun o ho => by unfold execOp; simp only [ho]; go_simp) ?_ AllReadyH.nil
            refine (same_any _ _ W5 W5 _ hsL HOK5.out hHeld.sn HOK5.out (by omega) (by omega)).mono ?_
            rintro e wM ⟨rfl, hbM⟩
            rw [decide_eq_true rfl]
            refine ⟨_, rfl, hHeld.keep hbM, fun hHeld => ?_⟩
            simp only [Act.put, List.setIfInBounds_toArray, List.set_cons_zero, List.set_cons_succ]
            refine hTake 4 (Op.unOp UnOp.not 4 (Operand.tmp 92)) (some 93) (.bool false) (by kernel_rfl) (by kernel_rfl) (by kernel_rfl) (by kernel_rfl) (by kernel_rfl) (fun _ _ _ h => h) (fun o ho wX hX => by unfold execOp; simp only [ho]; go_simp) hHeld ?_
            simp only [Act.put, List.setIfInBounds_toArray, List.set_cons_zero, List.set_cons_succ]
            refine hMove 5 (Operand.tmp 93) (some 94) (.bool false) (by kernel_rfl) (by kernel_rfl) (by kernel_rfl) (by kernel_rfl) (by kernel_rfl) (fun _ _ _ h => h) (by exact rfl) hHeld ?_
            simp only [Act.put, List.setIfInBounds_toArray, List.set_cons_zero, List.set_cons_succ]
            refine hMove 6 (Operand.tmp 3) (some 95) (.pointer (some ⟨g, 0, none⟩)) (by kernel_rfl) (by kernel_rfl) (by kernel_rfl) (by kernel_rfl) (by kernel_rfl) (fun _ _ _ h => h) (by exact rfl) hHeld ?_
            simp only [Act.put, List.setIfInBounds_toArray, List.set_cons_zero, List.set_cons_succ]
            refine hMove 8 (Operand.tmp 4) (some 97) (.slice A5 W5.length cap5) (by kernel_rfl) (by kernel_rfl) (by kernel_rfl) (by kernel_rfl) (by kernel_rfl) (fun _ _ _ h => h) (by exact rfl) hHeld ?_
            simp only [Act.put, List.setIfInBounds_toArray, List.set_cons_zero, List.set_cons_succ]
            refine hTake 9 (Op.call { callee := Callee.builtin Builtin.len, args := #[Operand.tmp 97], argTypes := #[24] }) (some 98) (.int .i64 (W5.length : Int)) (by kernel_rfl) (by kernel_rfl) (by kernel_rfl) (by kernel_rfl) (by kernel_rfl) (fun _ _ _ h => h) (fun o ho wX hX => by unfold execOp; simp only [ho]; go_simp) hHeld ?_
            simp only [Act.put, List.setIfInBounds_toArray, List.set_cons_zero, List.set_cons_succ]
            refine wpAnyH_ready (rs := [7]) (by kernel_rfl) (by simp) ?_
            refine rCall 7 (Op.call { callee := Callee.value (Operand.func 17), args := #[Operand.tmp 95], argTypes := #[32] }) (some 96) 17 (#[.pointer (some ⟨g, 0, none⟩)]) (by kernel_rfl) (by kernel_rfl) (fun o ho => by unfold execOp; simp only [ho]; go_simp) ?_ AllReadyH.nil
            refine (count_any g b (k + 1) W5.length F5 _ hHeld.ix).mono ?_
            rintro e wN ⟨rfl, hwN⟩
            subst hwN
            refine ⟨_, rfl, hHeld, fun hHeld => ?_⟩
            simp only [Act.put, List.setIfInBounds_toArray, List.set_cons_zero, List.set_cons_succ]
            refine hTake 10 (Op.binOp BinOp.neq 3 (Operand.tmp 96) (Operand.tmp 98) 3) (some 99) (.bool false) (by kernel_rfl) (by kernel_rfl) (by kernel_rfl) (by kernel_rfl) (by kernel_rfl) (fun _ _ _ h => h) (fun o ho wX hX => by unfold execOp; simp only [ho]; go_simp) hHeld ?_
            simp only [Act.put, List.setIfInBounds_toArray, List.set_cons_zero, List.set_cons_succ]
            refine hTake 11 (Op.pick (Operand.tmp 94) (Operand.const (Value.bool true)) (Operand.tmp 99)) (some 100) (.bool false) (by kernel_rfl) (by kernel_rfl) (by kernel_rfl) (by kernel_rfl) (by kernel_rfl) (fun _ _ _ h => h) (fun o ho wX hX => by unfold execOp; simp only [ho]; go_simp) hHeld ?_
            simp only [Act.put, List.setIfInBounds_toArray, List.set_cons_zero, List.set_cons_succ]
            refine hMove 12 (Operand.tmp 100) (some 101) (.bool false) (by kernel_rfl) (by kernel_rfl) (by kernel_rfl) (by kernel_rfl) (by kernel_rfl) (fun _ _ _ h => h) (by exact rfl) hHeld ?_
            simp only [Act.put, List.setIfInBounds_toArray, List.set_cons_zero, List.set_cons_succ]
            refine hMove 13 (Operand.tmp 3) (some 102) (.pointer (some ⟨g, 0, none⟩)) (by kernel_rfl) (by kernel_rfl) (by kernel_rfl) (by kernel_rfl) (by kernel_rfl) (fun _ _ _ h => h) (by exact rfl) hHeld ?_
            simp only [Act.put, List.setIfInBounds_toArray, List.set_cons_zero, List.set_cons_succ]
            refine hLoad 14 26 (Operand.tmp 6) (some 103) (cs := u8s (dg o.dig)) (by kernel_rfl) (by kernel_rfl) (by kernel_rfl) (by kernel_rfl) (by kernel_rfl) (fun _ _ _ h => h) (by exact rfl) (fun _ hX => hX.dig) Try.underlying26 rfl HUI.out hHeld ?_
            simp only [Act.put, List.setIfInBounds_toArray, List.set_cons_zero, List.set_cons_succ]
            refine hMove 15 (Operand.tmp 0) (some 104) (.slice (some ⟨b0, off0, none⟩) l.length cap) (by kernel_rfl) (by kernel_rfl) (by kernel_rfl) (by kernel_rfl) (by kernel_rfl) (fun _ _ _ h => h) (by exact rfl) hHeld ?_
            simp only [Act.put, List.setIfInBounds_toArray, List.set_cons_zero, List.set_cons_succ]
            refine hMove 16 (Operand.tmp 5) (some 105) (.int .i64 k) (by kernel_rfl) (by kernel_rfl) (by kernel_rfl) (by kernel_rfl) (by kernel_rfl) (fun _ _ _ h => h) (by exact rfl) hHeld ?_
            simp only [Act.put, List.setIfInBounds_toArray, List.set_cons_zero, List.set_cons_succ]
            refine hTake 17 (Op.indexAddr 22 (Operand.tmp 104) (Operand.tmp 105)) (some 106) (.pointer (some ⟨b0, off0 + k * 3, none⟩)) (by kernel_rfl) (by kernel_rfl) (by kernel_rfl) (by kernel_rfl) (by kernel_rfl) (fun _ _ _ h => h) (fun o ho wX hX => by unfold execOp; simp only [ho]; go_simp) hHeld ?_
            simp only [Act.put, List.setIfInBounds_toArray, List.set_cons_zero, List.set_cons_succ]
            refine hTake 18 (Op.fieldAddr 29 (Operand.tmp 106) 2) (some 107) (.pointer (some ⟨b0, off0 + k * 3 + 2, none⟩)) (by kernel_rfl) (by kernel_rfl) (by kernel_rfl) (by kernel_rfl) (by kernel_rfl) (fun _ _ _ h => h) (fun o ho wX hX => by unfold execOp; simp only [ho]; go_simp) hHeld ?_
            simp only [Act.put, List.setIfInBounds_toArray, List.set_cons_zero, List.set_cons_succ]
            refine hTake 19 (Op.load 2 (Operand.tmp 107)) (some 108) (.int .i64 o.time) (by kernel_rfl) (by kernel_rfl) (by kernel_rfl) (by kernel_rfl) (by kernel_rfl) (fun _ _ _ h => h) (fun o ho wX hX => by have hcell := hX.tm; unfold execOp; simp only [ho]; go_simp) hHeld ?_
            simp only [Act.put, List.setIfInBounds_toArray, List.set_cons_zero, List.set_cons_succ]
            refine hMove 21 (Operand.tmp 4) (some 110) (.slice A5 W5.length cap5) (by kernel_rfl) (by kernel_rfl) (by kernel_rfl) (by kernel_rfl) (by kernel_rfl) (fun _ _ _ h => h) (by exact rfl) hHeld ?_
            simp only [Act.put, List.setIfInBounds_toArray, List.set_cons_zero, List.set_cons_succ]
            refine hLoad 22 26 (Operand.tmp 6) (some 111) (cs := u8s (dg o.dig)) (by kernel_rfl) (by kernel_rfl) (by kernel_rfl) (by kernel_rfl) (by kernel_rfl) (fun _ _ _ h => h) (by exact rfl) (fun _ hX => hX.dig) Try.underlying26 rfl HUI.out hHeld ?_
            simp only [Act.put, List.setIfInBounds_toArray, List.set_cons_zero, List.set_cons_succ]
            refine hMove 23 (Operand.tmp 0) (some 112) (.slice (some ⟨b0, off0, none⟩) l.length cap) (by kernel_rfl) (by kernel_rfl) (by kernel_rfl) (by kernel_rfl) (by kernel_rfl) (fun _ _ _ h => h) (by exact rfl) hHeld ?_
            simp only [Act.put, List.setIfInBounds_toArray, List.set_cons_zero, List.set_cons_succ]
            refine hMove 24 (Operand.tmp 5) (some 113) (.int .i64 k) (by kernel_rfl) (by kernel_rfl) (by kernel_rfl) (by kernel_rfl) (by kernel_rfl) (fun _ _ _ h => h) (by exact rfl) hHeld ?_
            simp only [Act.put, List.setIfInBounds_toArray, List.set_cons_zero, List.set_cons_succ]
            refine hTake 25 (Op.indexAddr 22 (Operand.tmp 112) (Operand.tmp 113)) (some 114) (.pointer (some ⟨b0, off0 + k * 3, none⟩)) (by kernel_rfl) (by kernel_rfl) (by kernel_rfl) (by kernel_rfl) (by kernel_rfl) (fun _ _ _ h => h) (fun o ho wX hX => by unfold execOp; simp only [ho]; go_simp) hHeld ?_
            simp only [Act.put, List.setIfInBounds_toArray, List.set_cons_zero, List.set_cons_succ]
            refine hTake 26 (Op.fieldAddr 29 (Operand.tmp 114) 2) (some 115) (.pointer (some ⟨b0, off0 + k * 3 + 2, none⟩)) (by kernel_rfl) (by kernel_rfl) (by kernel_rfl) (by kernel_rfl) (by kernel_rfl) (fun _ _ _ h => h) (fun o ho wX hX => by unfold execOp; simp only [ho]; go_simp) hHeld ?_
            simp only [Act.put, List.setIfInBounds_toArray, List.set_cons_zero, List.set_cons_succ]
            refine hTake 27 (Op.load 2 (Operand.tmp 115)) (some 116) (.int .i64 o.time) (by kernel_rfl) (by kernel_rfl) (by kernel_rfl) (by kernel_rfl) (by kernel_rfl) (fun _ _ _ h => h) (fun o ho wX hX => by have hcell := hX.tm; unfold execOp; simp only [ho]; go_simp) hHeld ?_
            simp only [Act.put, List.setIfInBounds_toArray, List.set_cons_zero, List.set_cons_succ]
            refine wpAnyH_ready (rs := [20]) (by kernel_rfl) (by simp) ?_
            refine rCall 20 (Op.call { callee := Callee.value (Operand.func 16), args := #[Operand.tmp 102, Operand.tmp 103, Operand.tmp 108], argTypes := #[32, 26, 2] }) (some 109) 16 (#[.pointer (some ⟨g, 0, none⟩), .agg (u8s (dg o.dig)).toArray, .int .i64 o.time]) (by kernel_rfl) (by kernel_rfl) (fun o ho => by unfold execOp; simp only [ho]; go_simp) ?_ AllReadyH.nil
            refine (has_any g b (k + 1) W5.length F5 (dg o.dig) o.time _ hHeld.ix HDG.out).mono ?_
            rintro e wP ⟨rfl, hbP⟩
            rw [HHV.out]
            refine ⟨_, rfl, hHeld.keep hbP, fun hHeld => ?_⟩
            simp only [Act.put, List.setIfInBounds_toArray, List.set_cons_zero, List.set_cons_succ]
            refine wpAnyH_ready (rs := [28]) (by kernel_rfl) (by simp) ?_
            refine rCall 28 (Op.call { callee := Callee.value (Operand.func 23), args := #[Operand.tmp 110, Operand.tmp 111, Operand.tmp 116], argTypes := #[24, 26, 2] }) (some 117) 23 (#[.slice A5 W5.length cap5, .agg (u8s (dg o.dig)).toArray, .int .i64 o.time]) (by kernel_rfl) (by kernel_rfl) (fun o ho => by unfold execOp; simp only [ho]; go_simp) ?_ AllReadyH.nil
            refine (ref_has_any _ W5 (dg o.dig) o.time _ hHeld.sn HOK5.out (by omega) HDG.out).mono ?_
            rintro e wQ ⟨rfl, hbQ⟩
            rw [HRV.out]
            refine ⟨_, rfl, hHeld.keep hbQ, fun hHeld => ?_⟩
            simp only [Act.put, List.setIfInBounds_toArray, List.set_cons_zero, List.set_cons_succ]
            refine hTake 29 (Op.binOp BinOp.neq 4 (Operand.tmp 109) (Operand.tmp 117) 4) (some 118) (.bool false) (by kernel_rfl) (by kernel_rfl) (by kernel_rfl) (by kernel_rfl) (by kernel_rfl) (fun _ _ _ h => h) (fun o ho wX hX => by unfold execOp; simp only [ho]; go_simp) hHeld ?_
            simp only [Act.put, List.setIfInBounds_toArray, List.set_cons_zero, List.set_cons_succ]
            refine hTake 30 (Op.pick (Operand.tmp 101) (Operand.const (Value.bool true)) (Operand.tmp 118)) (some 119) (.bool false) (by kernel_rfl) (by kernel_rfl) (by kernel_rfl) (by kernel_rfl) (by kernel_rfl) (fun _ _ _ h => h) (fun o ho wX hX => by unfold execOp; simp only [ho]; go_simp) hHeld ?_
            simp only [Act.put, List.setIfInBounds_toArray, List.set_cons_zero, List.set_cons_succ]
            refine hMove 31 (Operand.tmp 119) (some 120) (.bool false) (by kernel_rfl) (by kernel_rfl) (by kernel_rfl) (by kernel_rfl) (by kernel_rfl) (fun _ _ _ h => h) (by exact rfl) hHeld ?_
            simp only [Act.put, List.setIfInBounds_toArray, List.set_cons_zero, List.set_cons_succ]
            refine hMove 32 (Operand.tmp 11) (some 121) (.bool true) (by kernel_rfl) (by kernel_rfl) (by kernel_rfl) (by kernel_rfl) (by kernel_rfl) (fun _ _ _ h => h) (by exact rfl) hHeld ?_
            simp only [Act.put, List.setIfInBounds_toArray, List.set_cons_zero, List.set_cons_succ]
            refine hMove 33 (Operand.tmp 4) (some 122) (.slice A5 W5.length cap5) (by kernel_rfl) (by kernel_rfl) (by kernel_rfl) (by kernel_rfl) (by kernel_rfl) (fun _ _ _ h => h) (by exact rfl) hHeld ?_
            simp only [Act.put, List.setIfInBounds_toArray, List.set_cons_zero, List.set_cons_succ]
            refine hLoad 34 26 (Operand.tmp 6) (some 123) (cs := u8s (dg o.dig)) (by kernel_rfl) (by kernel_rfl) (by kernel_rfl) (by kernel_rfl) (by kernel_rfl) (fun _ _ _ h => h) (by exact rfl) (fun _ hX => hX.dig) Try.underlying26 rfl HUI.out hHeld ?_
            simp only [Act.put, List.setIfInBounds_toArray, List.set_cons_zero, List.set_cons_succ]
            refine hMove 35 (Operand.tmp 10) (some 124) (.int .i64 t) (by kernel_rfl) (by kernel_rfl) (by kernel_rfl) (by kernel_rfl) (by kernel_rfl) (fun _ _ _ h => h) (by exact rfl) hHeld ?_
            simp only [Act.put, List.setIfInBounds_toArray, List.set_cons_zero, List.set_cons_succ]
            refine hTake 36 (Op.build 31 #[(0, Operand.tmp 123), (1, Operand.tmp 124)]) (some 125) (.agg (entC (dg o.dig) t).toArray) (by kernel_rfl) (by kernel_rfl) (by kernel_rfl) (by kernel_rfl) (by kernel_rfl) (fun _ _ _ h => h) (fun o ho wX hX => by unfold execOp; simp only [ho]; go_simp) hHeld ?_
            simp only [Act.put, List.setIfInBounds_toArray, List.set_cons_zero, List.set_cons_succ]
            refine wpAnyH_ready (rs := [37]) (by kernel_rfl) (by simp) ?_
            refine rCall 37 (Op.call { callee := Callee.value (Operand.func 24), args := #[Operand.tmp 122, Operand.tmp 125], argTypes := #[24, 31] }) (some 126) 24 (#[.slice A5 W5.length cap5, .agg (entC (dg o.dig) t).toArray]) (by kernel_rfl) (by kernel_rfl) (fun o ho => by unfold execOp; simp only [ho]; go_simp) ?_ AllReadyH.nil
            refine (contains_any _ W5 (dg o.dig, t) _ hHeld.sn HOK5.out (by omega) HEO.out).mono ?_
            rintro e wR ⟨rfl, hbR⟩
            rw [HMEM.out]
            refine ⟨_, rfl, hHeld.keep hbR, fun hHeld => ?_⟩
            simp only [Act.put, List.setIfInBounds_toArray, List.set_cons_zero, List.set_cons_succ]
            refine hTake 38 (Op.binOp BinOp.neq 4 (Operand.tmp 121) (Operand.tmp 126) 4) (some 127) (.bool false) (by kernel_rfl) (by kernel_rfl) (by kernel_rfl) (by kernel_rfl) (by kernel_rfl) (fun _ _ _ h => h) (fun o ho wX hX => by unfold execOp; simp only [ho]; go_simp) hHeld ?_
            simp only [Act.put, List.setIfInBounds_toArray, List.set_cons_zero, List.set_cons_succ]
            refine hTake 39 (Op.pick (Operand.tmp 120) (Operand.const (Value.bool true)) (Operand.tmp 127)) (some 128) (.bool false) (by kernel_rfl) (by kernel_rfl) (by kernel_rfl) (by kernel_rfl) (by kernel_rfl) (fun _ _ _ h => h) (fun o ho wX hX => by unfold execOp; simp only [ho]; go_simp) hHeld ?_
            simp only [Act.put, List.setIfInBounds_toArray, List.set_cons_zero, List.set_cons_succ]
            refine hMove 40 (Operand.tmp 128) (some 129) (.bool false) (by kernel_rfl) (by kernel_rfl) (by kernel_rfl) (by kernel_rfl) (by kernel_rfl) (fun _ _ _ h => h) (by exact rfl) hHeld ?_
            simp only [Act.put, List.setIfInBounds_toArray, List.set_cons_zero, List.set_cons_succ]
            refine hMove 41 (Operand.tmp 11) (some 130) (.bool true) (by kernel_rfl) (by kernel_rfl) (by kernel_rfl) (by kernel_rfl) (by kernel_rfl) (fun _ _ _ h => h) (by exact rfl) hHeld ?_
            simp only [Act.put, List.setIfInBounds_toArray, List.set_cons_zero, List.set_cons_succ]
            refine hTake 42 (Op.unOp UnOp.not 4 (Operand.tmp 130)) (some 131) (.bool false) (by kernel_rfl) (by kernel_rfl) (by kernel_rfl) (by kernel_rfl) (by kernel_rfl) (fun _ _ _ h => h) (fun o ho wX hX => by unfold execOp; simp only [ho]; go_simp) hHeld ?_
            simp only [Act.put, List.setIfInBounds_toArray, List.set_cons_zero, List.set_cons_succ]
            refine hMove 43 (Operand.tmp 131) (some 132) (.bool false) (by kernel_rfl) (by kernel_rfl) (by kernel_rfl) (by kernel_rfl) (by kernel_rfl) (fun _ _ _ h => h) (by exact rfl) hHeld ?_
            simp only [Act.put, List.setIfInBounds_toArray, List.set_cons_zero, List.set_cons_succ]
            refine hSkip 44 (some 133) (by kernel_rfl) (by kernel_rfl) (by kernel_rfl) (by kernel_rfl) (by kernel_rfl) (fun _ _ _ h => h) hHeld ?_
            simp only [Act.put, List.setIfInBounds_toArray, List.set_cons_zero, List.set_cons_succ]
            refine hSkip 45 (some 134) (by kernel_rfl) (by kernel_rfl) (by kernel_rfl) (by kernel_rfl) (by kernel_rfl) (fun _ _ _ h => h) hHeld ?_
            simp only [Act.put, List.setIfInBounds_toArray, List.set_cons_zero, List.set_cons_succ]
            refine hTake 46 (Op.pick (Operand.tmp 132) (Operand.tmp 134) (Operand.const (Value.bool false))) (some 135) (.bool false) (by kernel_rfl) (by kernel_rfl) (by kernel_rfl) (by kernel_rfl) (by kernel_rfl) (fun _ _ _ h => h) (fun o ho wX hX => by unfold execOp; simp only [ho]; go_simp) hHeld ?_
            simp only [Act.put, List.setIfInBounds_toArray, List.set_cons_zero, List.set_cons_succ]
            refine hTake 47 (Op.pick (Operand.tmp 129) (Operand.const (Value.bool true)) (Operand.tmp 135)) (some 136) (.bool false) (by kernel_rfl) (by kernel_rfl) (by kernel_rfl) (by kernel_rfl) (by kernel_rfl) (fun _ _ _ h => h) (fun o ho wX hX => by unfold execOp; simp only [ho]; go_simp) hHeld ?_
            simp only [Act.put, List.setIfInBounds_toArray, List.set_cons_zero, List.set_cons_succ]
            refine wpAnyH_done (by kernel_rfl) ?_ _
            go_wp2_with fail
            refine ⟨⟨k + 1, F5, W5.length, W5, by omega, by go_num, hHeld.sn, hHeld.ix, HL5.out, by omega, hb7'.trans (hHeld.bel.mono hb7'.size)⟩, by simp [intOf]; omega⟩
        · obtain ⟨A5, cap5, e5, _, _, _⟩ := id HS3.out
          subst e5
          go_wp2_with (first
            | (refine stNew 26 (.tmp 6) (.tmp 34) rfl rfl rfl rfl (by simp only [List.size_toArray, h32]; kernel_rfl) (by simp only [List.size_toArray, h32] <;> rfl) h1 ?_; intro w6 hblk hbD hsD; have hkc := (HC.out w6 (bstep hb3' hbD)).1; have hrd := Blk.range hblk; rw [List.toList_toArray] at hrd; have HRD := Lib.hid hrd; clear hrd)
            | (refine ld 26 _ rfl rfl rfl HRD.out hud rfl HUI.out ?_))
          obtain ⟨dB, hdB⟩ : ∃ x, x = w3.heap.size := ⟨_, rfl⟩
          rw [← hdB] at HRD ⊢
          have hb6 := bstep hb3' hbD
          have hX6 := (hX3.keep hbD).mono (Nat.le_succ k)
          have HS6 := Lib.hid (HS3.out.below hbD)
          have HD6 := HRD
          have HL5 := HLW
          have hWl5 : W.length ≤ k + 1 := by omega
          rw [hCW] at hX6
          clear hdB hkc hblk hX3 HS3 hbD hsD HRD
          obtain ⟨W5, hW5⟩ : ∃ x, x = W := ⟨_, rfl⟩
          subst hW5
          obtain ⟨F5, hF5⟩ : ∃ x, x = F := ⟨_, rfl⟩
          subst hF5
          refine (get_any g b (k + 1) W5.length F5 (dg o.dig) w6 hX6 HDG.out).mono ?_
          rintro e w7 ⟨rfl, hb7⟩
          have HMS6 : Hid (MS g b (k + 1) W5.length F5 (.slice A5 W5.length cap5) W5 dB (dg o.dig) b0 (off0 + k * 3 + 2) o.time w7 w7) := Lib.hid ⟨hX6.keep hb7, HS6.out.below hb7, fun j u hj => Below.cell' hb7 (HD6.out j u hj), (HC.out w7 (bstep hb6 hb7)).2.2, Below.refl _ _⟩
          have hb7' := bstep hb6 hb7
          have HLM := Lib.hid HL5.out.min
          have HOK5 : Hid (∀ p ∈ W5, EntOk p) := Lib.hid (fun p hp => ((HL5.out.mem p).1 hp).1)
          obtain ⟨hv, hhv⟩ : ∃ x, x = ((F5 (dg o.dig)).isSome && decide (o.time ≤ (F5 (dg o.dig)).getD 0)) := ⟨_, rfl⟩
          have HHV := Lib.hid hhv.symm
          have HRV : Hid ((W5.any fun p => decide (p.1 = dg o.dig) && decide (o.time ≤ p.2)) = hv) := Lib.hid ((HL5.out.has HDG.out o.time).trans hhv.symm)
          have HF : Hid (F5 (dg o.dig) = none ∨ ∃ t, F5 (dg o.dig) = some t) := Lib.hid (by cases F5 (dg o.dig) <;> simp)
          have hent0 := fun t => entC_length HDG.out t
          have hbuild0 := fun t => build_ent (dg o.dig) t HDG.out.len
          have hbuild3 := build_size
          clear hhv hb6 hb7 hX6 HS6 HD6 hud h1 HEO1 HUE
          rcases HF.out with hF | ⟨t, hF⟩
          · have HMEM : Hid (decide ((dg o.dig, (0 : Int)) ∈ W5) = false) := Lib.hid (decide_eq_false fun h => by
              have := ((HL5.out.mem _).1 h).2
              simp only at this
              rw [hF] at this
              cases this)
            have HEO : Hid (EntOk (dg o.dig, (0 : Int))) := Lib.hid ⟨HDG.out, by show isI64 0; unfold isI64; omega⟩
            have hbuild := hbuild0 0
            have hent := hent0 0
            rw [hF, Option.isSome_none, Option.getD_none]
            clear hF hbuild0 hent0
            go_wp2_with fail
            refine held_start 48 (MS g b (k + 1) W5.length F5 (.slice A5 W5.length cap5) W5 dB (dg o.dig) b0 (off0 + k * 3 + 2) o.time w7) (by kernel_rfl) (by kernel_rfl) (HMS6.out.keep (Below.refl _ _).drew) (fun hHeld => ?_)
            refine hMove 0 (Operand.tmp 3) (some 89) (.pointer (some ⟨g, 0, none⟩)) (by kernel_rfl) (by kernel_rfl) (by kernel_rfl) (by kernel_rfl) (by kernel_rfl) (fun _ _ _ h => h) (by exact rfl) hHeld ?_
            simp only [Act.put, List.setIfInBounds_toArray, List.set_cons_zero, List.set_cons_succ]
            refine hMove 2 (Operand.tmp 4) (some 91) (.slice A5 W5.length cap5) (by kernel_rfl) (by kernel_rfl) (by kernel_rfl) (by kernel_rfl) (by kernel_rfl) (fun _ _ _ h => h) (by exact rfl) hHeld ?_
            simp only [Act.put, List.setIfInBounds_toArray, List.set_cons_zero, List.set_cons_succ]
            refine wpAnyH_ready (rs := [1]) (by kernel_rfl) (by simp) ?_
            refine rCall 1 (Op.call { callee := Callee.value (Operand.func 12), args := #[Operand.tmp 89, Operand.const (Value.int IntKind.i64 (-9223372036854775808))], argTypes := #[32, 2] }) (some 90) 12 (#[.pointer (some ⟨g, 0, none⟩), .int .i64 (-9223372036854775808)]) (by kernel_rfl) (by kernel_rfl) (fun o ho => by unfold execOp; simp only [ho]; go_simp) ?_ AllReadyH.nil
            refine (live_full g b (k + 1) W5.length F5 _ _ hHeld.ix (by omega)).mono ?_
            rintro e wL ⟨vL, L, rfl, hsL, hmL, hpL, hbL, _⟩
            have hLW : L = W5 := (Lists.of_live hmL hpL hHeld.ix.i64).eq HLM.out
            rw [hLW] at hsL
            clear hLW hmL hpL
            refine ⟨_, rfl, hHeld.keep hbL, fun hHeld => ?_⟩
            simp only [Act.put, List.setIfInBounds_toArray, List.set_cons_zero, List.set_cons_succ]
            refine wpAnyH_ready (rs := [3]) (by kernel_rfl) (by simp) ?_
            refine rCall 3 (Op.call { callee := Callee.value (Operand.func 13), args := #[Operand.tmp 90, Operand.tmp 91], argTypes := #[24, 24] }) (some 92) 13 (#[vL, .slice A5 W5.length cap5]) (by kernel_rfl) (by kernel_rfl) (fun o ho => by unfold execOp; simp only [ho]; go_simp) ?_ AllReadyH.nil
            refine (same_any _ _ W5 W5 _ hsL HOK5.out hHeld.sn HOK5.out (by omega) (by omega)).mono ?_
            rintro e wM ⟨rfl, hbM⟩
            rw [decide_eq_true rfl]
            refine ⟨_, rfl, hHeld.keep hbM, fun hHeld => ?_⟩
            simp only [Act.put, List.setIfInBounds_toArray, List.set_cons_zero, List.set_cons_succ]
            refine hTake 4 (Op.unOp UnOp.not 4 (Operand.tmp 92)) (some 93) (.bool false) (by kernel_rfl) (by kernel_rfl) (by kernel_rfl) (by kernel_rfl) (by kernel_rfl) (fun _ _ _ h => h) (fun o ho wX hX => by unfold execOp; simp only [ho]; go_simp) hHeld ?_
            simp only [Act.put, List.setIfInBounds_toArray, List.set_cons_zero, List.set_cons_succ]
            refine hMove 5 (Operand.tmp 93) (some 94) (.bool false) (by kernel_rfl) (by kernel_rfl) (by kernel_rfl) (by kernel_rfl) (by kernel_rfl) (fun _ _ _ h => h) (by exact rfl) hHeld ?_
            simp only [Act.put, List.setIfInBounds_toArray, List.set_cons_zero, List.set_cons_succ]
            refine hMove 6 (Operand.tmp 3) (some 95) (.pointer (some ⟨g, 0, none⟩)) (by kernel_rfl) (by kernel_rfl) (by kernel_rfl) (by kernel_rfl) (by kernel_rfl) (fun _ _ _ h => h) (by exact rfl) hHeld ?_
            simp only [Act.put, List.setIfInBounds_toArray, List.set_cons_zero, List.set_cons_succ]
            refine hMove 8 (Operand.tmp 4) (some 97) (.slice A5 W5.length cap5) (by kernel_rfl) (by kernel_rfl) (by kernel_rfl) (by kernel_rfl) (by kernel_rfl) (fun _ _ _ h => h) (by exact rfl) hHeld ?_
            simp only [Act.put, List.setIfInBounds_toArray, List.set_cons_zero, List.set_cons_succ]
            refine hTake 9 (Op.call { callee := Callee.builtin Builtin.len, args := #[Operand.tmp 97], argTypes := #[24] }) (some 98) (.int .i64 (W5.length : Int)) (by kernel_rfl) (by kernel_rfl) (by kernel_rfl) (by kernel_rfl) (by kernel_rfl) (fun _ _ _ h => h) (fun o ho wX hX => by unfold execOp; simp only [ho]; go_simp) hHeld ?_
            simp only [Act.put, List.setIfInBounds_toArray, List.set_cons_zero, List.set_cons_succ]
            refine wpAnyH_ready (rs := [7]) (by kernel_rfl) (by simp) ?_
            refine rCall 7 (Op.call { callee := Callee.value (Operand.func 17), args := #[Operand.tmp 95], argTypes := #[32] }) (some 96) 17 (#[.pointer (some ⟨g, 0, none⟩)]) (by kernel_rfl) (by kernel_rfl) (fun o ho => by unfold execOp; simp only [ho]; go_simp) ?_ AllReadyH.nil
            refine (count_any g b (k + 1) W5.length F5 _ hHeld.ix).mono ?_
            rintro e wN ⟨rfl, hwN⟩
            subst hwN
            refine ⟨_, rfl, hHeld, fun hHeld => ?_⟩
            simp only [Act.put, List.setIfInBounds_toArray, List.set_cons_zero, List.set_cons_succ]
            refine hTake 10 (Op.binOp BinOp.neq 3 (Operand.tmp 96) (Operand.tmp 98) 3) (some 99) (.bool false) (by kernel_rfl) (by kernel_rfl) (by kernel_rfl) (by kernel_rfl) (by kernel_rfl) (fun _ _ _ h => h) (fun o ho wX hX => by unfold execOp; simp only [ho]; go_simp) hHeld ?_
            simp only [Act.put, List.setIfInBounds_toArray, List.set_cons_zero, List.set_cons_succ]
            refine hTake 11 (Op.pick (Operand.tmp 94) (Operand.const (Value.bool true)) (Operand.tmp 99)) (some 100) (.bool false) (by kernel_rfl) (by kernel_rfl) (by kernel_rfl) (by kernel_rfl) (by kernel_rfl) (fun _ _ _ h => h) (fun o ho wX hX => by unfold execOp; simp only [ho]; go_simp) hHeld ?_
            simp only [Act.put, List.setIfInBounds_toArray, List.set_cons_zero, List.set_cons_succ]
            refine hMove 12 (Operand.tmp 100) (some 101) (.bool false) (by kernel_rfl) (by kernel_rfl) (by kernel_rfl) (by kernel_rfl) (by kernel_rfl) (fun _ _ _ h => h) (by exact rfl) hHeld ?_
            simp only [Act.put, List.setIfInBounds_toArray, List.set_cons_zero, List.set_cons_succ]
            refine hMove 13 (Operand.tmp 3) (some 102) (.pointer (some ⟨g, 0, none⟩)) (by kernel_rfl) (by kernel_rfl) (by kernel_rfl) (by kernel_rfl) (by kernel_rfl) (fun _ _ _ h => h) (by exact rfl) hHeld ?_
            simp only [Act.put, List.setIfInBounds_toArray, List.set_cons_zero, List.set_cons_succ]
            refine hLoad 14 26 (Operand.tmp 6) (some 103) (cs := u8s (dg o.dig)) (by kernel_rfl) (by kernel_rfl) (by kernel_rfl) (by kernel_rfl) (by kernel_rfl) (fun _ _ _ h => h) (by exact rfl) (fun _ hX => hX.dig) Try.underlying26 rfl HUI.out hHeld ?_
            simp only [Act.put, List.setIfInBounds_toArray, List.set_cons_zero, List.set_cons_succ]
            refine hMove 15 (Operand.tmp 0) (some 104) (.slice (some ⟨b0, off0, none⟩) l.length cap) (by kernel_rfl) (by kernel_rfl) (by kernel_rfl) (by kernel_rfl) (by kernel_rfl) (fun _ _ _ h => h) (by exact rfl) hHeld ?_
            simp only [Act.put, List.setIfInBounds_toArray, List.set_cons_zero, List.set_cons_succ]
            refine hMove 16 (Operand.tmp 5) (some 105) (.int .i64 k) (by kernel_rfl) (by kernel_rfl) (by kernel_rfl) (by kernel_rfl) (by kernel_rfl) (fun _ _ _ h => h) (by exact rfl) hHeld ?_
            simp only [Act.put, List.setIfInBounds_toArray, List.set_cons_zero, List.set_cons_succ]
            refine hTake 17 (Op.indexAddr 22 (Operand.tmp 104) (Operand.tmp 105)) (some 106) (.pointer (some ⟨b0, off0 + k * 3, none⟩)) (by kernel_rfl) (by kernel_rfl) (by kernel_rfl) (by kernel_rfl) (by kernel_rfl) (fun _ _ _ h => h) (fun o ho wX hX => by unfold execOp; simp only [ho]; go_simp) hHeld ?_
            simp only [Act.put, List.setIfInBounds_toArray, List.set_cons_zero, List.set_cons_succ]
            refine hTake 18 (Op.fieldAddr 29 (Operand.tmp 106) 2) (some 107) (.pointer (some ⟨b0, off0 + k * 3 + 2, none⟩)) (by kernel_rfl) (by kernel_rfl) (by kernel_rfl) (by kernel_rfl) (by kernel_rfl) (fun _ _ _ h => h) (fun o ho wX hX => by unfold execOp; simp only [ho]; go_simp) hHeld ?_
            simp only [Act.put, List.setIfInBounds_toArray, List.set_cons_zero, List.set_cons_succ]
            refine hTake 19 (Op.load 2 (Operand.tmp 107)) (some 108) (.int .i64 o.time) (by kernel_rfl) (by kernel_rfl) (by kernel_rfl) (by kernel_rfl) (by kernel_rfl) (fun _ _ _ h => h) (fun o ho wX hX => by have hcell := hX.tm; unfold execOp; simp only [ho]; go_simp) hHeld ?_
            simp only [Act.put, List.setIfInBounds_toArray, List.set_cons_zero, List.set_cons_succ]
            refine hMove 21 (Operand.tmp 4) (some 110) (.slice A5 W5.length cap5) (by kernel_rfl) (by kernel_rfl) (by kernel_rfl) (by kernel_rfl) (by kernel_rfl) (fun _ _ _ h => h) (by exact rfl) hHeld ?_
            simp only [Act.put, List.setIfInBounds_toArray, List.set_cons_zero, List.set_cons_succ]
            refine hLoad 22 26 (Operand.tmp 6) (some 111) (cs := u8s (dg o.dig)) (by kernel_rfl) (by kernel_rfl) (by kernel_rfl) (by kernel_rfl) (by kernel_rfl) (fun _ _ _ h => h) (by exact rfl) (fun _ hX => hX.dig) Try.underlying26 rfl HUI.out hHeld ?_
            simp only [Act.put, List.setIfInBounds_toArray, List.set_cons_zero, List.set_cons_succ]
            refine hMove 23 (Operand.tmp 0) (some 112) (.slice (some ⟨b0, off0, none⟩) l.length cap) (by kernel_rfl) (by kernel_rfl) (by kernel_rfl) (by kernel_rfl) (by kernel_rfl) (fun _ _ _ h => h) (by exact rfl) hHeld ?_
            simp only [Act.put, List.setIfInBounds_toArray, List.set_cons_zero, List.set_cons_succ]
            refine hMove 24 (Operand.tmp 5) (some 113) (.int .i64 k) (by kernel_rfl) (by kernel_rfl) (by kernel_rfl) (by kernel_rfl) (by kernel_rfl) (fun _ _ _ h => h) (by exact rfl) hHeld ?_
            simp only [Act.put, List.setIfInBounds_toArray, List.set_cons_zero, List.set_cons_succ]
            refine hTake 25 (Op.indexAddr 22 (Operand.tmp 112) (Operand.tmp 113)) (some 114) (.pointer (some ⟨b0, off0 + k * 3, none⟩)) (by kernel_rfl) (by kernel_rfl) (by kernel_rfl) (by kernel_rfl) (by kernel_rfl) (fun _ _ _ h => h) (fun o ho wX hX => by unfold execOp; simp only [ho]; go_simp) hHeld ?_
            simp only [Act.put, List.setIfInBounds_toArray, List.set_cons_zero, List.set_cons_succ]
            refine hTake 26 (Op.fieldAddr 29 (Operand.tmp 114) 2) (some 115) (.pointer (some ⟨b0, off0 + k * 3 + 2, none⟩)) (by kernel_rfl) (by kernel_rfl) (by kernel_rfl) (by kernel_rfl) (by kernel_rfl) (fun _ _ _ h => h) (fun o ho wX hX => by unfold execOp; simp only [ho]; go_simp) hHeld ?_
            simp only [Act.put, List.setIfInBounds_toArray, List.set_cons_zero, List.set_cons_succ]
            refine hTake 27 (Op.load 2 (Operand.tmp 115)) (some 116) (.int .i64 o.time) (by kernel_rfl) (by kernel_rfl) (by kernel_rfl) (by kernel_rfl) (by kernel_rfl) (fun _ _ _ h => h) (fun o ho wX hX => by have hcell := hX.tm; unfold execOp; simp only [ho]; go_simp) hHeld ?_
            simp only [Act.put, List.setIfInBounds_toArray, List.set_cons_zero, List.set_cons_succ]
            refine wpAnyH_ready (rs := [20]) (by kernel_rfl) (by simp) ?_
            refine rCall 20 (Op.call { callee := Callee.value (Operand.func 16), args := #[Operand.tmp 102, Operand.tmp 103, Operand.tmp 108], argTypes := #[32, 26, 2] }) (some 109) 16 (#[.pointer (some ⟨g, 0, none⟩), .agg (u8s (dg o.dig)).toArray, .int .i64 o.time]) (by kernel_rfl) (by kernel_rfl) (fun o ho => by unfold execOp; simp only [ho]; go_simp) ?_ AllReadyH.nil
            refine (has_any g b (k + 1) W5.length F5 (dg o.dig) o.time _ hHeld.ix HDG.out).mono ?_
            rintro e wP ⟨rfl, hbP⟩
            rw [HHV.out]
            refine ⟨_, rfl, hHeld.keep hbP, fun hHeld => ?_⟩
            simp only [Act.put, List.setIfInBounds_toArray, List.set_cons_zero, List.set_cons_succ]
            refine wpAnyH_ready (rs := [28]) (by kernel_rfl) (by simp) ?_
            refine rCall 28 (Op.call { callee := Callee.value (Operand.func 23), args := #[Operand.tmp 110, Operand.tmp 111, Operand.tmp 116], argTypes := #[24, 26, 2] }) (some 117) 23 (#[.slice A5 W5.length cap5, .agg (u8s (dg o.dig)).toArray, .int .i64 o.time]) (by kernel_rfl) (by kernel_rfl) (fun o ho => by unfold execOp; simp only [ho]; go_simp) ?_ AllReadyH.nil
            refine (ref_has_any _ W5 (dg o.dig) o.time _ hHeld.sn HOK5.out (by omega) HDG.out).mono ?_
            rintro e wQ ⟨rfl, hbQ⟩
            rw [HRV.out]
            refine ⟨_, rfl, hHeld.keep hbQ, fun hHeld => ?_⟩
            simp only [Act.put, List.setIfInBounds_toArray, List.set_cons_zero, List.set_cons_succ]
            refine hTake 29 (Op.binOp BinOp.neq 4 (Operand.tmp 109) (Operand.tmp 117) 4) (some 118) (.bool false) (by kernel_rfl) (by kernel_rfl) (by kernel_rfl) (by kernel_rfl) (by kernel_rfl) (fun _ _ _ h => h) (fun o ho wX hX => by unfold execOp; simp only [ho]; go_simp) hHeld ?_
            simp only [Act.put, List.setIfInBounds_toArray, List.set_cons_zero, List.set_cons_succ]
            refine hTake 30 (Op.pick (Operand.tmp 101) (Operand.const (Value.bool true)) (Operand.tmp 118)) (some 119) (.bool false) (by kernel_rfl) (by kernel_rfl) (by kernel_rfl) (by kernel_rfl) (by kernel_rfl) (fun _ _ _ h => h) (fun o ho wX hX => by unfold execOp; simp only [ho]; go_simp) hHeld ?_
            simp only [Act.put, List.setIfInBounds_toArray, List.set_cons_zero, List.set_cons_succ]
            refine hMove 31 (Operand.tmp 119) (some 120) (.bool false) (by kernel_rfl) (by kernel_rfl) (by kernel_rfl) (by kernel_rfl) (by kernel_rfl) (fun _ _ _ h => h) (by exact rfl) hHeld ?_
            simp only [Act.put, List.setIfInBounds_toArray, List.set_cons_zero, List.set_cons_succ]
            refine hMove 32 (Operand.tmp 11) (some 121) (.bool false) (by kernel_rfl) (by kernel_rfl) (by kernel_rfl) (by kernel_rfl) (by kernel_rfl) (fun _ _ _ h => h) (by exact rfl) hHeld ?_
            simp only [Act.put, List.setIfInBounds_toArray, List.set_cons_zero, List.set_cons_succ]
            refine hMove 33 (Operand.tmp 4) (some 122) (.slice A5 W5.length cap5) (by kernel_rfl) (by kernel_rfl) (by kernel_rfl) (by kernel_rfl) (by kernel_rfl) (fun _ _ _ h => h) (by exact rfl) hHeld ?_
            simp only [Act.put, List.setIfInBounds_toArray, List.set_cons_zero, List.set_cons_succ]
            refine hLoad 34 26 (Operand.tmp 6) (some 123) (cs := u8s (dg o.dig)) (by kernel_rfl) (by kernel_rfl) (by kernel_rfl) (by kernel_rfl) (by kernel_rfl) (fun _ _ _ h => h) (by exact rfl) (fun _ hX => hX.dig) Try.underlying26 rfl HUI.out hHeld ?_
            simp only [Act.put, List.setIfInBounds_toArray, List.set_cons_zero, List.set_cons_succ]
            refine hMove 35 (Operand.tmp 10) (some 124) (.int .i64 0) (by kernel_rfl) (by kernel_rfl) (by kernel_rfl) (by kernel_rfl) (by kernel_rfl) (fun _ _ _ h => h) (by exact rfl) hHeld ?_
            simp only [Act.put, List.setIfInBounds_toArray, List.set_cons_zero, List.set_cons_succ]
            refine hTake 36 (Op.build 31 #[(0, Operand.tmp 123), (1, Operand.tmp 124)]) (some 125) (.agg (entC (dg o.dig) 0).toArray) (by kernel_rfl) (by kernel_rfl) (by kernel_rfl) (by kernel_rfl) (by kernel_rfl) (fun _ _ _ h => h) (fun o ho wX hX => by unfold execOp; simp only [ho]; go_simp) hHeld ?_
            simp only [Act.put, List.setIfInBounds_toArray, List.set_cons_zero, List.set_cons_succ]
            refine wpAnyH_ready (rs := [37]) (by kernel_rfl) (by simp) ?_
            refine rCall 37 (Op.call { callee := Callee.value (Operand.func 24), args := #[Operand.tmp 122, Operand.tmp 125], argTypes := #[24, 31] }) (some 126) 24 (#[.slice A5 W5.length cap5, .agg (entC (dg o.dig) 0).toArray]) (by kernel_rfl) (by kernel_rfl) (fun o ho => by unfold execOp; simp only [ho]; go_simp) ?_ AllReadyH.nil
            refine (contains_any _ W5 (dg o.dig, 0) _ hHeld.sn HOK5.out (by omega) HEO.out).mono ?_
            rintro e wR ⟨rfl, hbR⟩
            rw [HMEM.out]
            refine ⟨_, rfl, hHeld.keep hbR, fun hHeld => ?_⟩
            simp only [Act.put, List.setIfInBounds_toArray, List.set_cons_zero, List.set_cons_succ]
            refine hTake 38 (Op.binOp BinOp.neq 4 (Operand.tmp 121) (Operand.tmp 126) 4) (some 127) (.bool false) (by kernel_rfl) (by kernel_rfl) (by kernel_rfl) (by kernel_rfl) (by kernel_rfl) (fun _ _ _ h => h) (fun o ho wX hX => by unfold execOp; simp only [ho]; go_simp) hHeld ?_
            simp only [Act.put, List.setIfInBounds_toArray, List.set_cons_zero, List.set_cons_succ]
            refine hTake 39 (Op.pick (Operand.tmp 120) (Operand.const (Value.bool true)) (Operand.tmp 127)) (some 128) (.bool false) (by kernel_rfl) (by kernel_rfl) (by kernel_rfl) (by kernel_rfl) (by kernel_rfl) (fun _ _ _ h => h) (fun o ho wX hX => by unfold execOp; simp only [ho]; go_simp) hHeld ?_
            simp only [Act.put, List.setIfInBounds_toArray, List.set_cons_zero, List.set_cons_succ]
            refine hMove 40 (Operand.tmp 128) (some 129) (.bool false) (by kernel_rfl) (by kernel_rfl) (by kernel_rfl) (by kernel_rfl) (by kernel_rfl) (fun _ _ _ h => h) (by exact rfl) hHeld ?_
            simp only [Act.put, List.setIfInBounds_toArray, List.set_cons_zero, List.set_cons_succ]
            refine hMove 41 (Operand.tmp 11) (some 130) (.bool false) (by kernel_rfl) (by kernel_rfl) (by kernel_rfl) (by kernel_rfl) (by kernel_rfl) (fun _ _ _ h => h) (by exact rfl) hHeld ?_
            simp only [Act.put, List.setIfInBounds_toArray, List.set_cons_zero, List.set_cons_succ]
            refine hTake 42 (Op.unOp UnOp.not 4 (Operand.tmp 130)) (some 131) (.bool true) (by kernel_rfl) (by kernel_rfl) (by kernel_rfl) (by kernel_rfl) (by kernel_rfl) (fun _ _ _ h => h) (fun o ho wX hX => by unfold execOp; simp only [ho]; go_simp) hHeld ?_
            simp only [Act.put, List.setIfInBounds_toArray, List.set_cons_zero, List.set_cons_succ]
            refine hMove 43 (Operand.tmp 131) (some 132) (.bool true) (by kernel_rfl) (by kernel_rfl) (by kernel_rfl) (by kernel_rfl) (by kernel_rfl) (fun _ _ _ h => h) (by exact rfl) hHeld ?_
            simp only [Act.put, List.setIfInBounds_toArray, List.set_cons_zero, List.set_cons_succ]
            refine hMove 44 (Operand.tmp 10) (some 133) (.int .i64 0) (by kernel_rfl) (by kernel_rfl) (by kernel_rfl) (by kernel_rfl) (by kernel_rfl) (fun _ _ _ h => h) (by exact rfl) hHeld ?_
            simp only [Act.put, List.setIfInBounds_toArray, List.set_cons_zero, List.set_cons_succ]
            refine hTake 45 (Op.binOp BinOp.neq 2 (Operand.tmp 133) (Operand.const (Value.int IntKind.i64 0)) 2) (some 134) (.bool false) (by kernel_rfl) (by kernel_rfl) (by kernel_rfl) (by kernel_rfl) (by kernel_rfl) (fun _ _ _ h => h) (fun o ho wX hX => by unfold execOp; simp only [ho]; go_simp) hHeld ?_
            simp only [Act.put, List.setIfInBounds_toArray, List.set_cons_zero, List.set_cons_succ]
            refine hTake 46 (Op.pick (Operand.tmp 132) (Operand.tmp 134) (Operand.const (Value.bool false))) (some 135) (.bool false) (by kernel_rfl) (by kernel_rfl) (by kernel_rfl) (by kernel_rfl) (by kernel_rfl) (fun _ _ _ h => h) (fun o ho wX hX => by unfold execOp; simp only [ho]; go_simp) hHeld ?_
            simp only [Act.put, List.setIfInBounds_toArray, List.set_cons_zero, List.set_cons_succ]
            refine hTake 47 (Op.pick (Operand.tmp 129) (Operand.const (Value.bool true)) (Operand.tmp 135)) (some 136) (.bool false) (by kernel_rfl) (by kernel_rfl) (by kernel_rfl) (by kernel_rfl) (by kernel_rfl) (fun _ _ _ h => h) (fun o ho wX hX => by unfold execOp; simp only [ho]; go_simp) hHeld ?_
            simp only [Act.put, List.setIfInBounds_toArray, List.set_cons_zero, List.set_cons_succ]
            refine wpAnyH_done (by kernel_rfl) ?_ _
            go_wp2_with fail
            refine ⟨⟨k + 1, F5, W5.length, W5, by omega, by go_num, hHeld.sn, hHeld.ix, HL5.out, by omega, hb7'.trans (hHeld.bel.mono hb7'.size)⟩, by simp [intOf]; omega⟩
          · have HMEM : Hid (decide ((dg o.dig, t) ∈ W5) = true) := Lib.hid (decide_eq_true ((HL5.out.mem _).2 ⟨⟨HDG.out, HL5.out.exp _ _ HDG.out hF⟩, hF⟩))
            have HEO : Hid (EntOk (dg o.dig, t)) := Lib.hid ⟨HDG.out, HL5.out.exp _ _ HDG.out hF⟩
            have hbuild := hbuild0 t
            have hent := hent0 t
            rw [hF, Option.isSome_some, Option.getD_some]
            clear hF hbuild0 hent0
            go_wp2_with fail
            refine held_start 48 (MS g b (k + 1) W5.length F5 (.slice A5 W5.length cap5) W5 dB (dg o.dig) b0 (off0 + k * 3 + 2) o.time w7) (by kernel_rfl) (by kernel_rfl) (HMS6.out.keep (Below.refl _ _).drew) (fun hHeld => ?_)
            refine hMove 0 (Operand.tmp 3) (some 89) (.pointer (some ⟨g, 0, none⟩)) (by kernel_rfl) (by kernel_rfl) (by kernel_rfl) (by kernel_rfl) (by kernel_rfl) (fun _ _ _ h => h) (by exact rfl) hHeld ?_
            simp only [Act.put, List.setIfInBounds_toArray, List.set_cons_zero, List.set_cons_succ]
            refine hMove 2 (Operand.tmp 4) (some 91) (.slice A5 W5.length cap5) (by kernel_rfl) (by kernel_rfl) (by kernel_rfl) (by kernel_rfl) (by kernel_rfl) (fun _ _ _ h => h) (by exact rfl) hHeld ?_
            simp only [Act.put, List.setIfInBounds_toArray, List.set_cons_zero, List.set_cons_succ]
            refine wpAnyH_ready (rs := [1]) (by kernel_rfl) (by simp) ?_
            refine rCall 1 (Op.call { callee := Callee.value (Operand.func 12), args := #[Operand.tmp 89, Operand.const (Value.int IntKind.i64 (-9223372036854775808))], argTypes := #[32, 2] }) (some 90) 12 (#[.pointer (some ⟨g, 0, none⟩), .int .i64 (-9223372036854775808)]) (by kernel_rfl) (by kernel_rfl) (fun o ho => by unfold execOp; simp only [ho]; go_simp) ?_ AllReadyH.nil
            refine (live_full g b (k + 1) W5.length F5 _ _ hHeld.ix (by omega)).mono ?_
            rintro e wL ⟨vL, L, rfl, hsL, hmL, hpL, hbL, _⟩
            have hLW : L = W5 := (Lists.of_live hmL hpL hHeld.ix.i64).eq HLM.out
            rw [hLW] at hsL
            clear hLW hmL hpL
            refine ⟨_, rfl, hHeld.keep hbL, fun hHeld => ?_⟩
            simp only [Act.put, List.setIfInBounds_toArray, List.set_cons_zero, List.set_cons_succ]
            refine wpAnyH_ready (rs := [3]) (by kernel_rfl) (by simp) ?_
            refine rCall 3 (Op.call { callee := Callee.value (Operand.func 13), args := #[Operand.tmp 90, Operand.tmp 91], argTypes := #[24, 24] }) (some 92) 13 (#[vL, .slice A5 W5.length cap5]) (by kernel_rfl) (by kernel_rfl) (fun o ho => by unfold execOp; simp only [ho]; go_simp) ?_ AllReadyH.nil
            refine (same_any _ _ W5 W5 _ hsL HOK5.out hHeld.sn HOK5.out (by omega) (by omega)).mono ?_
            rintro e wM ⟨rfl, hbM⟩
            rw [decide_eq_true rfl]
            refine ⟨_, rfl, hHeld.keep hbM, fun hHeld => ?_⟩
            simp only [Act.put, List.setIfInBounds_toArray, List.set_cons_zero, List.set_cons_succ]
            refine hTake 4 (Op.unOp UnOp.not 4 (Operand.tmp 92)) (some 93) (.bool false) (by kernel_rfl) (by kernel_rfl) (by kernel_rfl) (by kernel_rfl) (by kernel_rfl) (fun _ _ _ h => h) (fun o ho wX hX => by unfold execOp; simp only [ho]; go_simp) hHeld ?_
            simp only [Act.put, List.setIfInBounds_toArray, List.set_cons_zero, List.set_cons_succ]
            refine hMove 5 (Operand.tmp 93) (some 94) (.bool false) (by kernel_rfl) (by kernel_rfl) (by kernel_rfl) (by kernel_rfl) (by kernel_rfl) (fun _ _ _ h => h) (by exact rfl) hHeld ?_
            simp only [Act.put, List.setIfInBounds_toArray, List.set_cons_zero, List.set_cons_succ]
            refine hMove 6 (Operand.tmp 3) (some 95) (.pointer (some ⟨g, 0, none⟩)) (by kernel_rfl) (by kernel_rfl) (by kernel_rfl) (by kernel_rfl) (by kernel_rfl) (fun _ _ _ h => h) (by exact rfl) hHeld ?_
            simp only [Act.put, List.setIfInBounds_toArray, List.set_cons_zero, List.set_cons_succ]
            refine hMove 8 (Operand.tmp 4) (some 97) (.slice A5 W5.length cap5) (by kernel_rfl) (by kernel_rfl) (by kernel_rfl) (by kernel_rfl) (by kernel_rfl) (fun _ _ _ h => h) (by exact rfl) hHeld ?_
            simp only [Act.put, List.setIfInBounds_toArray, List.set_cons_zero, List.set_cons_succ]
            refine hTake 9 (Op.call { callee := Callee.builtin Builtin.len, args := #[Operand.tmp 97], argTypes := #[24] }) (some 98) (.int .i64 (W5.length : Int)) (by kernel_rfl) (by kernel_rfl) (by kernel_rfl) (by kernel_rfl) (by kernel_rfl) (fun _ _ _ h => h) (fun o ho wX hX => by unfold execOp; simp only [ho]; go_simp) hHeld ?_
            simp only [Act.put, List.setIfInBounds_toArray, List.set_cons_zero, List.set_cons_succ]
            refine wpAnyH_ready (rs := [7]) (by kernel_rfl) (by simp) ?_
            refine rCall 7 (Op.call { callee := Callee.value (Operand.func 17), args := #[Operand.tmp 95], argTypes := #[32] }) (some 96) 17 (#[.pointer (some ⟨g, 0, none⟩)]) (by kernel_rfl) (by kernel_rfl) (fun o ho => by unfold execOp; simp only [ho]; go_simp) ?_ AllReadyH.nil
            refine (count_any g b (k + 1) W5.length F5 _ hHeld.ix).mono ?_
            rintro e wN ⟨rfl, hwN⟩
            subst hwN
            refine ⟨_, rfl, hHeld, fun hHeld => ?_⟩
            simp only [Act.put, List.setIfInBounds_toArray, List.set_cons_zero, List.set_cons_succ]
            refine hTake 10 (Op.binOp BinOp.neq 3 (Operand.tmp 96) (Operand.tmp 98) 3) (some 99) (.bool false) (by kernel_rfl) (by kernel_rfl) (by kernel_rfl) (by kernel_rfl) (by kernel_rfl) (fun _ _ _ h => h) (fun o ho wX hX => by unfold execOp; simp only [ho]; go_simp) hHeld ?_
            simp only [Act.put, List.setIfInBounds_toArray, List.set_cons_zero, List.set_cons_succ]
            refine hTake 11 (Op.pick (Operand.tmp 94) (Operand.const (Value.bool true)) (Operand.tmp 99)) (some 100) (.bool false) (by kernel_rfl) (by kernel_rfl) (by kernel_rfl) (by kernel_rfl) (by kernel_rfl) (fun _ _ _ h => h) (fun o ho wX hX => by unfold execOp; simp only [ho]; go_simp) hHeld ?_
            simp only [Act.put, List.setIfInBounds_toArray, List.set_cons_zero, List.set_cons_succ]
            refine hMove 12 (Operand.tmp 100) (some 101) (.bool false) (by kernel_rfl) (by kernel_rfl) (by kernel_rfl) (by kernel_rfl) (by kernel_rfl) (fun _ _ _ h => h) (by exact rfl) hHeld ?_
            simp only [Act.put, List.setIfInBounds_toArray, List.set_cons_zero, List.set_cons_succ]
            refine hMove 13 (Operand.tmp 3) (some 102) (.pointer (some ⟨g, 0, none⟩)) (by kernel_rfl) (by kernel_rfl) (by kernel_rfl) (by kernel_rfl) (by kernel_rfl) (fun _ _ _ h => h) (by exact rfl) hHeld ?_
            simp only [Act.put, List.setIfInBounds_toArray, List.set_cons_zero, List.set_cons_succ]
            refine hLoad 14 26 (Operand.tmp 6) (some 103) (cs := u8s (dg o.dig)) (by kernel_rfl) (by kernel_rfl) (by kernel_rfl) (by kernel_rfl) (by kernel_rfl) (fun _ _ _ h => h) (by exact rfl) (fun _ hX => hX.dig) Try.underlying26 rfl HUI.out hHeld ?_
            simp only [Act.put, List.setIfInBounds_toArray, List.set_cons_zero, List.set_cons_succ]
            refine hMove 15 (Operand.tmp 0) (some 104) (.slice (some ⟨b0, off0, none⟩) l.length cap) (by kernel_rfl) (by kernel_rfl) (by kernel_rfl) (by kernel_rfl) (by kernel_rfl) (fun _ _ _ h => h) (by exact rfl) hHeld ?_
            simp only [Act.put, List.setIfInBounds_toArray, List.set_cons_zero, List.set_cons_succ]
            refine hMove 16 (Operand.tmp 5) (some 105) (.int .i64 k) (by kernel_rfl) (by kernel_rfl) (by kernel_rfl) (by kernel_rfl) (by kernel_rfl) (fun _ _ _ h => h) (by exact rfl) hHeld ?_
            simp only [Act.put, List.setIfInBounds_toArray, List.set_cons_zero, List.set_cons_succ]
            refine hTake 17 (Op.indexAddr 22 (Operand.tmp 104) (Operand.tmp 105)) (some 106) (.pointer (some ⟨b0, off0 + k * 3, none⟩)) (by kernel_rfl) (by kernel_rfl) (by kernel_rfl) (by kernel_rfl) (by kernel_rfl) (fun _ _ _ h => h) (fun o ho wX hX => by unfold execOp; simp only [ho]; go_simp) hHeld ?_
            simp only [Act.put, List.setIfInBounds_toArray, List.set_cons_zero, List.set_cons_succ]
            refine hTake 18 (Op.fieldAddr 29 (Operand.tmp 106) 2) (some 107) (.pointer (some ⟨b0, off0 + k * 3 + 2, none⟩)) (by kernel_rfl) (by kernel_rfl) (by kernel_rfl) (by kernel_rfl) (by kernel_rfl) (fun _ _ _ h => h) (fun o ho wX hX => by unfold execOp; simp only [ho]; go_simp) hHeld ?_
            simp only [Act.put, List.setIfInBounds_toArray, List.set_cons_zero, List.set_cons_succ]
            refine hTake 19 (Op.load 2 (Operand.tmp 107)) (some 108) (.int .i64 o.time) (by kernel_rfl) (by kernel_rfl) (by kernel_rfl) (by kernel_rfl) (by kernel_rfl) (fun _ _ _ h => h) (fun o ho wX hX => by have hcell := hX.tm; unfold execOp; simp only [ho]; go_simp) hHeld ?_
            simp only [Act.put, List.setIfInBounds_toArray, List.set_cons_zero, List.set_cons_succ]
            refine hMove 21 (Operand.tmp 4) (some 110) (.slice A5 W5.length cap5) (by kernel_rfl) (by kernel_rfl) (by kernel_rfl) (by kernel_rfl) (by kernel_rfl) (fun _ _ _ h => h) (by exact rfl) hHeld ?_
            simp only [Act.put, List.setIfInBounds_toArray, List.set_cons_zero, List.set_cons_succ]
            refine hLoad 22 26 (Operand.tmp 6) (some 111) (cs := u8s (dg o.dig)) (by kernel_rfl) (by kernel_rfl) (by kernel_rfl) (by kernel_rfl) (by kernel_rfl) (fun _ _ _ h => h) (by exact rfl) (fun _ hX => hX.dig) Try.underlying26 rfl HUI.out hHeld ?_
            simp only [Act.put, List.setIfInBounds_toArray, List.set_cons_zero, List.set_cons_succ]
            refine hMove 23 (Operand.tmp 0) (some 112) (.slice (some ⟨b0, off0, none⟩) l.length cap) (by kernel_rfl) (by kernel_rfl) (by kernel_rfl) (by kernel_rfl) (by kernel_rfl) (fun _ _ _ h => h) (by exact rfl) hHeld ?_
            simp only [Act.put, List.setIfInBounds_toArray, List.set_cons_zero, List.set_cons_succ]
            refine hMove 24 (Operand.tmp 5) (some 113) (.int .i64 k) (by kernel_rfl) (by kernel_rfl) (by kernel_rfl) (by kernel_rfl) (by kernel_rfl) (fun _ _ _ h => h) (by exact rfl) hHeld ?_
            simp only [Act.put, List.setIfInBounds_toArray, List.set_cons_zero, List.set_cons_succ]
            refine hTake 25 (Op.indexAddr 22 (Operand.tmp 112) (Operand.tmp 113)) (some 114) (.pointer (some ⟨b0, off0 + k * 3, none⟩)) (by kernel_rfl) (by kernel_rfl) (by kernel_rfl) (by kernel_rfl) (by kernel_rfl) (fun _ _ _ h => h) (fun o ho wX hX => by unfold execOp; simp only [ho]; go_simp) hHeld ?_
            simp only [Act.put, List.setIfInBounds_toArray, List.set_cons_zero, List.set_cons_succ]
            refine hTake 26 (Op.fieldAddr 29 (Operand.tmp 114) 2) (some 115) (.pointer (some ⟨b0, off0 + k * 3 + 2, none⟩)) (by kernel_rfl) (by kernel_rfl) (by kernel_rfl) (by kernel_rfl) (by kernel_rfl) (fun _ _ _ h => h) (fun o ho wX hX => by unfold execOp; simp only [ho]; go_simp) hHeld ?_
            simp only [Act.put, List.setIfInBounds_toArray, List.set_cons_zero, List.set_cons_succ]
            refine hTake 27 (Op.load 2 (Operand.tmp 115)) (some 116) (.int .i64 o.time) (by kernel_rfl) (by kernel_rfl) (by kernel_rfl) (by kernel_rfl) (by kernel_rfl) (fun _ _ _ h => h) (fun o ho wX hX => by have hcell := hX.tm; unfold execOp; simp only [ho]; go_simp) hHeld ?_
            simp only [Act.put, List.setIfInBounds_toArray, List.set_cons_zero, List.set_cons_succ]
            refine wpAnyH_ready (rs := [20]) (by kernel_rfl) (by simp) ?_
            refine rCall 20 (Op.call { callee := Callee.value (Operand.func 16), args := #[Operand.tmp 102, Operand.tmp 103, Operand.tmp 108], argTypes := #[32, 26, 2] }) (some 109) 16 (#[.pointer (some ⟨g, 0, none⟩), .agg (u8s (dg o.dig)).toArray, .int .i64 o.time]) (by kernel_rfl) (by kernel_rfl) (fun o ho => by unfold execOp; simp only [ho]; go_simp) ?_ AllReadyH.nil
            refine (has_any g b (k + 1) W5.length F5 (dg o.dig) o.time _ hHeld.ix HDG.out).mono ?_
            rintro e wP ⟨rfl, hbP⟩
            rw [HHV.out]
            refine ⟨_, rfl, hHeld.keep hbP, fun hHeld => ?_⟩
            simp only [Act.put, List.setIfInBounds_toArray, List.set_cons_zero, List.set_cons_succ]
            refine wpAnyH_ready (rs := [28]) (by kernel_rfl) (by simp) ?_
            refine rCall 28 (Op.call { callee := Callee.value (Operand.func 23), args := #[Operand.tmp 110, Operand.tmp 111, Operand.tmp 116], argTypes := #[24, 26, 2] }) (some 117) 23 (#[.slice A5 W5.length cap5, .agg (u8s (dg o.dig)).toArray, .int .i64 o.time]) (by kernel_rfl) (by kernel_rfl) (fun o ho => by unfold execOp; simp only [ho]; go_simp) ?_ AllReadyH.nil
            refine (ref_has_any _ W5 (dg o.dig) o.time _ hHeld.sn HOK5.out (by omega) HDG.out).mono ?_
            rintro e wQ ⟨rfl, hbQ⟩
            rw [HRV.out]
            refine ⟨_, rfl, hHeld.keep hbQ, fun hHeld => ?_⟩
            simp only [Act.put, List.setIfInBounds_toArray, List.set_cons_zero, List.set_cons_succ]
            refine hTake 29 (Op.binOp BinOp.neq 4 (Operand.tmp 109) (Operand.tmp 117) 4) (some 118) (.bool false) (by kernel_rfl) (by kernel_rfl) (by kernel_rfl) (by kernel_rfl) (by kernel_rfl) (fun _ _ _ h => h) (fun o ho wX hX => by unfold execOp; simp only [ho]; go_simp) hHeld ?_
            simp only [Act.put, List.setIfInBounds_toArray, List.set_cons_zero, List.set_cons_succ]
            refine hTake 30 (Op.pick (Operand.tmp 101) (Operand.const (Value.bool true)) (Operand.tmp 118)) (some 119) (.bool false) (by kernel_rfl) (by kernel_rfl) (by kernel_rfl) (by kernel_rfl) (by kernel_rfl) (fun _ _ _ h => h) (fun o ho wX hX => by unfold execOp; simp only [ho]; go_simp) hHeld ?_
            simp only [Act.put, List.setIfInBounds_toArray, List.set_cons_zero, List.set_cons_succ]
            refine hMove 31 (Operand.tmp 119) (some 120) (.bool false) (by kernel_rfl) (by kernel_rfl) (by kernel_rfl) (by kernel_rfl) (by kernel_rfl) (fun _ _ _ h => h) (by exact rfl) hHeld ?_
            simp only [Act.put, List.setIfInBounds_toArray, List.set_cons_zero, List.set_cons_succ]
            refine hMove 32 (Operand.tmp 11) (some 121) (.bool true) (by kernel_rfl) (by kernel_rfl) (by kernel_rfl) (by kernel_rfl) (by kernel_rfl) (fun _ _ _ h => h) (by exact rfl) hHeld ?_
            simp only [Act.put, List.setIfInBounds_toArray, List.set_cons_zero, List.set_cons_succ]
            refine hMove 33 (Operand.tmp 4) (some 122) (.slice A5 W5.length cap5) (by kernel_rfl) (by kernel_rfl) (by kernel_rfl) (by kernel_rfl) (by kernel_rfl) (fun _ _ _ h => h) (by exact rfl) hHeld ?_
            simp only [Act.put, List.setIfInBounds_toArray, List.set_cons_zero, List.set_cons_succ]
            refine hLoad 34 26 (Operand.tmp 6) (some 123) (cs := u8s (dg o.dig)) (by kernel_rfl) (by kernel_rfl) (by kernel_rfl) (by kernel_rfl) (by kernel_rfl) (fun _ _ _ h => h) (by exact rfl) (fun _ hX => hX.dig) Try.underlying26 rfl HUI.out hHeld ?_
            simp only [Act.put, List.setIfInBounds_toArray, List.set_cons_zero, List.set_cons_succ]
            refine hMove 35 (Operand.tmp 10) (some 124) (.int .i64 t) (by kernel_rfl) (by kernel_rfl) (by kernel_rfl) (by kernel_rfl) (by kernel_rfl) (fun _ _ _ h => h) (by exact rfl) hHeld ?_
            simp only [Act.put, List.setIfInBounds_toArray, List.set_cons_zero, List.set_cons_succ]
            refine hTake 36 (Op.build 31 #[(0, Operand.tmp 123), (1, Operand.tmp 124)]) (some 125) (.agg (entC (dg o.dig) t).toArray) (by kernel_rfl) (by kernel_rfl) (by kernel_rfl) (by kernel_rfl) (by kernel_rfl) (fun _ _ _ h => h) (fun o ho wX hX => by unfold execOp; simp only [ho]; go_simp) hHeld ?_
            simp only [Act.put, List.setIfInBounds_toArray, List.set_cons_zero, List.set_cons_succ]
            refine wpAnyH_ready (rs := [37]) (by kernel_rfl) (by simp) ?_
            refine rCall 37 (Op.call { callee := Callee.value (Operand.func 24), args := #[Operand.tmp 122, Operand.tmp 125], argTypes := #[24, 31] }) (some 126) 24 (#[.slice A5 W5.length cap5, .agg (entC (dg o.dig) t).toArray]) (by kernel_rfl) (by kernel_rfl) (fun o ho => by unfold execOp; simp only [ho]; go_simp) ?_ AllReadyH.nil
            refine (contains_any _ W5 (dg o.dig, t) _ hHeld.sn HOK5.out (by omega) HEO.out).mono ?_
            rintro e wR ⟨rfl, hbR⟩
            rw [HMEM.out]
            refine ⟨_, rfl, hHeld.keep hbR, fun hHeld => ?_⟩
            simp only [Act.put, List.setIfInBounds_toArray, List.set_cons_zero, List.set_cons_succ]
            refine hTake 38 (Op.binOp BinOp.neq 4 (Operand.tmp 121) (Operand.tmp 126) 4) (some 127) (.bool false) (by kernel_rfl) (by kernel_rfl) (by kernel_rfl) (by kernel_rfl) (by kernel_rfl) (fun _ _ _ h => h) (fun o ho wX hX => by unfold execOp; simp only [ho]; go_simp) hHeld ?_
            simp only [Act.put, List.setIfInBounds_toArray, List.set_cons_zero, List.set_cons_succ]
            refine hTake 39 (Op.pick (Operand.tmp 120) (Operand.const (Value.bool true)) (Operand.tmp 127)) (some 128) (.bool false) (by kernel_rfl) (by kernel_rfl) (by kernel_rfl) (by kernel_rfl) (by kernel_rfl) (fun _ _ _ h => h) (fun o ho wX hX => by unfold execOp; simp only [ho]; go_simp) hHeld ?_
            simp only [Act.put, List.setIfInBounds_toArray, List.set_cons_zero, List.set_cons_succ]
            refine hMove 40 (Operand.tmp 128) (some 129) (.bool false) (by kernel_rfl) (by kernel_rfl) (by kernel_rfl) (by kernel_rfl) (by kernel_rfl) (fun _ _ _ h => h) (by exact rfl) hHeld ?_
            simp only [Act.put, List.setIfInBounds_toArray, List.set_cons_zero, List.set_cons_succ]
            refine hMove 41 (Operand.tmp 11) (some 130) (.bool true) (by kernel_rfl) (by kernel_rfl) (by kernel_rfl) (by kernel_rfl) (by kernel_rfl) (fun _ _ _ h => h) (by exact rfl) hHeld ?_
            simp only [Act.put, List.setIfInBounds_toArray, List.set_cons_zero, List.set_cons_succ]
            refine hTake 42 (Op.unOp UnOp.not 4 (Operand.tmp 130)) (some 131) (.bool false) (by kernel_rfl) (by kernel_rfl) (by kernel_rfl) (by kernel_rfl) (by kernel_rfl) (fun _ _ _ h => h) (fun o ho wX hX => by unfold execOp; simp only [ho]; go_simp) hHeld ?_
            simp only [Act.put, List.setIfInBounds_toArray, List.set_cons_zero, List.set_cons_succ]
            refine hMove 43 (Operand.tmp 131) (some 132) (.bool false) (by kernel_rfl) (by kernel_rfl) (by kernel_rfl) (by kernel_rfl) (by kernel_rfl) (fun _ _ _ h => h) (by exact rfl) hHeld ?_
            simp only [Act.put, List.setIfInBounds_toArray, List.set_cons_zero, List.set_cons_succ]
            refine hSkip 44 (some 133) (by kernel_rfl) (by kernel_rfl) (by kernel_rfl) (by kernel_rfl) (by kernel_rfl) (fun _ _ _ h => h) hHeld ?_
            simp only [Act.put, List.setIfInBounds_toArray, List.set_cons_zero, List.set_cons_succ]
            refine hSkip 45 (some 134) (by kernel_rfl) (by kernel_rfl) (by kernel_rfl) (by kernel_rfl) (by kernel_rfl) (fun _ _ _ h => h) hHeld ?_
            simp only [Act.put, List.setIfInBounds_toArray, List.set_cons_zero, List.set_cons_succ]
            refine hTake 46 (Op.pick (Operand.tmp 132) (Operand.tmp 134) (Operand.const (Value.bool false))) (some 135) (.bool false) (by kernel_rfl) (by kernel_rfl) (by kernel_rfl) (by kernel_rfl) (by kernel_rfl) (fun _ _ _ h => h) (fun o ho wX hX => by unfold execOp; simp only [ho]; go_simp) hHeld ?_
            simp only [Act.put, List.setIfInBounds_toArray, List.set_cons_zero, List.set_cons_succ]
            refine hTake 47 (Op.pick (Operand.tmp 129) (Operand.const (Value.bool true)) (Operand.tmp 135)) (some 136) (.bool false) (by kernel_rfl) (by kernel_rfl) (by kernel_rfl) (by kernel_rfl) (by kernel_rfl) (fun _ _ _ h => h) (fun o ho wX hX => by unfold execOp; simp only [ho]; go_simp) hHeld ?_
            simp only [Act.put, List.setIfInBounds_toArray, List.set_cons_zero, List.set_cons_succ]
            refine wpAnyH_done (by kernel_rfl) ?_ _
            go_wp2_with fail
            refine ⟨⟨k + 1, F5, W5.length, W5, by omega, by go_num, hHeld.sn, hHeld.ix, HL5.out, by omega, hb7'.trans (hHeld.bel.mono hb7'.size)⟩, by simp [intOf]; omega⟩
      · obtain rfl : k = l.length := by omega
        have hbW : Below w.heap.size w wr := bstep hb1 hb
        go_wp2_with fail
        go_ret
        exact ⟨rfl, hbW⟩
end Go.Proofs.Ytlhehnghplchfaa
