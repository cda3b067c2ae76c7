/- Parts: The index: Live, up to the sort. -/
import Derived.Test.YtombncedfleljaaGreatMK3
import Derived.Test.YtombncedfleljaaGreatMK2
import Derived.Test.YtombncedfleljaaGreatMK6
namespace Go.Proofs.YtombncedfleljaaGreat
set_option maxRecDepth 100000
open Go.RowKit


theorem own_grown {w w' : World} {base e s n : Nat} {v : Value} {xs : List Value} {r : Nat} (h : w.ownsRow base e s v n xs) (hg : w.grownBy w' (some r)) (hr : r < base) : w'.ownsRow base e s v n xs := by
  refine ⟨h.1, ?_⟩
  have hlt := h.lt
  rcases h.2 with h2 | ⟨g, cap, cur, rfl, hb, hh, k⟩
  · exact .inl h2
  · exact .inr ⟨g, cap, cur, rfl, hb, by rw [hg.block g (hlt g rfl).2 (fun e => by injection e with e; omega)]; exact hh, k⟩

set_option maxRecDepth 100000 in
set_option maxHeartbeats 4000000 in
theorem live_own (g b n c : Nat) (f : List Int → Option Int) (now : Int) (w : World) (h : IX w g b n f c) (hn : n ≤ 1000) :
    Calls Tryz.prog 37 #[.pointer (some ⟨g, 0, none⟩), .int .i64 now] w fun e w' => ∃ (v : Value) (L : List (List Int × Int)), e = .returned v ∧ Sn w' 33 v L.length (L.flatMap entP) ∧ (∀ p : List Int × Int, p ∈ L ↔ EntOk p ∧ f p.1 = some p.2 ∧ now ≤ p.2) ∧ L.Pairwise (fun p q => cmpE p q < 0) ∧ Below w.heap.size w w' ∧ L.length ≤ c ∧ ∀ b, v.ownBlock = some b → w.heap.size ≤ b ∧ b < w'.heap.size := by
  obtain ⟨hg, hgb, hm⟩ := h
  have hc := hm.le
  go_enter Tryz.func37, Tryz.ntmps37
  go_wp2_with (at_range; refine dRange Tryz.underlying114 rfl _ rfl rfl hm ?_; intro w1 hR1 hg1 hs1)
  simp only [Act.put, List.setIfInBounds_toArray, List.set_cons_zero, List.set_cons_succ]
  have hb1 : Below w.heap.size w w1 := ⟨hg1.os, hg1.tape, hg1.output, hg1.size, fun k hk => hg1.block k hk (by simp)⟩
  have hblt := hm.lt
  have hglt := cell_lt hg
  go_loopw [5] (fun m wr => ∃ (M : List (List Int × Int)) (cnt : Nat) (left : List Int → Bool), wr.ownsRow (w.heap.size + 1) 35 33 m M.length (M.flatMap entP) ∧ DR wr b w.heap.size n f c left cnt ∧ Below w.heap.size w wr ∧ Hid (∀ p : List Int × Int, p ∈ M ↔ EntOk p ∧ f p.1 = some p.2 ∧ now ≤ p.2 ∧ left p.1 = false) ∧ M.length + cnt ≤ c ∧ M.Nodup) (fun _ wr => wr.rangeLeft b w.heap.size)
  case atStart => exact ⟨[], c, _, World.ownsRow_nil _ _ _ _, hR1, hb1, Lib.hid (fun p => by
    constructor
    · intro h; simp at h
    · rintro ⟨_, h, _, h'⟩; rw [h] at h'; simp at h'), by simp, List.nodup_nil⟩
  case round =>
    obtain ⟨M, cnt, left, hown, hR, hb, HM, hMc, hnd⟩ := hrel
    have hgr := Below.cell' hb hg
    have hcnt := Lib.hid hR.left_eq
    have hszr := hb.size
    have hRlt := hR.lt
    go_wp2_with (at_next; refine dNext rfl _ rfl rfl hR ?_ ?_)
    · intro h0 hall
      have HOK : Hid (∀ p ∈ M, EntOk p) := Lib.hid fun p hp => ((HM.out p).1 hp).1
      have hM1 : M.length ≤ 1000 := by omega
      go_wp2_with fail
      refine (sort_any (w.heap.size + 1) M.length u5 M wr rfl hown HOK.out hM1 (by omega)).mono ?_
      rintro e w2 ⟨rfl, L, hperm, hsorted, hsn, hbs⟩
      go_wp2_with fail
      go_ret
      have hndL : L.Nodup := hperm.nodup_iff.2 hnd
      refine ⟨_, L, rfl, hsn, fun p => ?_, ?_, hb.trans (hbs.mono (Nat.le_succ _)), by have := hperm.length_eq; omega, fun b e => ⟨by have := (hown.lt b e).1; omega, Nat.lt_of_lt_of_le (hown.lt b e).2 hbs.size⟩⟩
      · rw [hperm.mem_iff, HM.out p]
        constructor
        · rintro ⟨k1, k2, k3, _⟩; exact ⟨k1, k2, k3⟩
        · rintro ⟨k1, k2, k3⟩; exact ⟨k1, k2, k3, hall p.1 k1.dig⟩
      · refine (hsorted.and hndL).imp fun {p q} h => ?_
        have hne : cmpE p q ≠ 0 := fun e => h.2 ((cmpE_zero p q).1 e)
        have := h.1
        omega
    · intro d t w2 cnt' hd hti hl hfd hR2 hlt hg2 hs2 hen
      have h1 := u8s_one d
      have hbuild := build_ent d t hd.len
      have hent := entC_length hd t
      have hbuild2 := build_one d t hd
      have hbuild3 := build_size
      have h32 : (u8s d).length = 32 := by simp [u8s, hd.len]
      have hb2 : Below w.heap.size w w2 := ⟨hg2.os.trans hb.os, hg2.tape.trans hb.tape, hg2.output.trans hb.output, by omega, fun i hi => (hg2.block i (by omega) (fun e => by injection e with e; omega)).trans (hb.block i hi)⟩
      have hgr2 := Below.cell' hb2 hg
      have hown2 : w2.ownsRow (w.heap.size + 1) 35 33 _ M.length (M.flatMap entP) := own_grown hown hg2 (by simp)
      have HS2 := Lib.hid hs2
      have HLT := Lib.hid hlt
      clear hR hR1 hlt hs2 hown
      rcases Bool.eq_false_or_eq_true (decide (now ≤ t)) with t1 | t1
      · go_wp2_with (first
          | (refine stNew 33 (.tmp 6) (.tmp 18) rfl rfl rfl rfl (by simp only [List.size_toArray, h32]; kernel_rfl) (by simp only [List.size_toArray, h32] <;> rfl) h1 ?_; intro w3 hblk hb3 hs3; have hr3 := Blk.range hblk; rw [List.toList_toArray] at hr3; have hoA := own_below (own_below hown2 hb3) (balloc (Below.refl _ w3) (.cells (entC d t).toArray 35)); have hnA := Sn.new w3 (entC d t).toArray 35 33 1 (by simp [hent]); have hs3' : w.heap.size + 2 ≤ w3.heap.size := (by have := HS2.out; omega); clear hs3)
          | (refine ld 33 _ rfl rfl rfl hr3 Tryz.underlying33 rfl (by rw [h32]; kernel_rfl) ?_)
          | (at_builtin; refine app tEntI (.tmp 23) (.tmp 27) rfl rfl (v := u5) rfl hoA rfl hnA (fun u hu => by have := entC_one d t; simp only [List.all_toArray, List.all_eq_true] at this; exact this u (by simpa using hu)) (by unfold maxLen; omega) (by omega) (by simp; omega) ?_; intro v4 w4 hown4 hg4 _))
        have hbA : Below w.heap.size w (w3.alloc (.cells (entC d t).toArray 35)) := (bstep hb2 hb3).alloc (by omega) _
        have hb4 : Below w.heap.size w w4 := hbA.grown hg4 (by simp; omega) (fun g hg => by have := (hoA.lt g hg).1; omega)
        have hkeep : ∀ k, k ≤ w.heap.size → w4.heap[k]? = w2.heap[k]? := fun k hk => by
          rw [hg4.block k (by simp; omega) (fun e => by have := (hoA.lt k e.symm).1; omega), Below.heap_alloc _ _ _ (by omega), hb3.block k (by have := HS2.out; omega)]
        have hR4 := hR2.of_blocks (hkeep b (by omega)) (hkeep w.heap.size (Nat.le_refl _))
        have hlt := of_decide_eq_true t1
        refine ⟨⟨M ++ [(d, t)], cnt', _, by rw [List.length_append, List.flatMap_append]; simpa [entP] using hown4, hR4, hb4, Lib.hid fun p => ?_, by have := HLT.out; simp only [List.length_append, List.length_cons, List.length_nil]; omega, ?_⟩, ?_⟩
        · rw [List.mem_append, HM.out p]
          have hfd0 := hfd
          constructor
          · rintro (⟨k1, k2, k3, k4⟩ | h)
            · exact ⟨k1, k2, k3, by simp [k4]⟩
            · obtain rfl : p = (d, t) := by simpa using h
              exact ⟨⟨hd, hti⟩, hfd, hlt, by simp⟩
          · rintro ⟨k1, k2, k3, k4⟩
            by_cases hpd : p.1 = d
            · refine .inr ?_
              rw [hpd, hfd0] at k2
              injection k2 with k2
              have : p = (d, t) := Prod.ext hpd k2.symm
              simp [this]
            · exact .inl ⟨k1, k2, k3, by simpa [hpd] using k4⟩
        · refine List.nodup_append.2 ⟨hnd, by simp, fun x hx y hy => ?_⟩
          obtain rfl : y = (d, t) := by simpa using hy
          rintro rfl
          have := ((HM.out _).1 hx).2.2.2
          rw [hl] at this
          cases this
        · rw [hcnt.out, hR4.left_eq]
          exact HLT.out
      · go_wp2_with (refine stNew 33 (.tmp 6) (.tmp 18) rfl rfl rfl rfl (by simp only [List.size_toArray, h32]; kernel_rfl) (by simp only [List.size_toArray, h32] <;> rfl) h1 ?_; intro w3 hblk hb3 hs3)
        refine ⟨⟨M, cnt', _, own_below hown2 hb3, hR2.keep hb3, bstep hb2 hb3, Lib.hid fun p => ?_, by have := HLT.out; omega, hnd⟩, ?_⟩
        · have hlt := of_decide_eq_false t1
          rw [HM.out p]
          constructor
          · rintro ⟨k1, k2, k3, k4⟩
            exact ⟨k1, k2, k3, by simp [k4]⟩
          · rintro ⟨k1, k2, k3, k4⟩
            refine ⟨k1, k2, k3, ?_⟩
            by_cases hpd : p.1 = d
            · rw [hpd] at k2
              rw [hfd] at k2
              injection k2 with k2
              omega
            · simpa [hpd] using k4
        · rw [hcnt.out, (hR2.keep hb3).left_eq]
          exact HLT.out
theorem live_full (g b n c : Nat) (f : List Int → Option Int) (now : Int) (w : World) (h : IX w g b n f c) (hn : n ≤ 1000) :
    Calls Tryz.prog 37 #[.pointer (some ⟨g, 0, none⟩), .int .i64 now] w fun e w' => ∃ (v : Value) (L : List (List Int × Int)), e = .returned v ∧ Sn w' 33 v L.length (L.flatMap entP) ∧ (∀ p : List Int × Int, p ∈ L ↔ EntOk p ∧ f p.1 = some p.2 ∧ now ≤ p.2) ∧ L.Pairwise (fun p q => cmpE p q < 0) ∧ Below w.heap.size w w' ∧ L.length ≤ c := by
  refine (live_own g b n c f now w h hn).mono ?_
  rintro e w' ⟨v, L, k1, k2, k3, k4, k5, k6, _⟩
  exact ⟨v, L, k1, k2, k3, k4, k5, k6⟩
theorem live_walk (g b n c : Nat) (f : List Int → Option Int) (now : Int) (w : World) (h : IX w g b n f c) (hn : n ≤ 1000) :
    Calls Tryz.prog 37 #[.pointer (some ⟨g, 0, none⟩), .int .i64 now] w fun e w' => ∃ (v : Value) (L : List (List Int × Int)), e = .returned v ∧ Sn w' 33 v L.length (L.flatMap entP) ∧ (∀ p : List Int × Int, p ∈ L ↔ EntOk p ∧ f p.1 = some p.2 ∧ now ≤ p.2) ∧ L.Pairwise (fun p q => cmpE p q < 0) ∧ Below w.heap.size w w' := by
  refine (live_full g b n c f now w h hn).mono ?_
  rintro e w' ⟨v, L, k1, k2, k3, k4, k5, _⟩
  exact ⟨v, L, k1, k2, k3, k4, k5⟩
end Go.Proofs.YtombncedfleljaaGreat
