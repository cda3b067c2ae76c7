/- tolllaw20.awake: it answers true. -/
import Derived.Test.YtlhehnghplchfaaLive
import Derived.Test.YtlhehnghplchfaaIdx4
namespace Go.Proofs.Ytlhehnghplchfaa
open Go.RowKit

def d7 : List Int := 7 :: List.replicate 31 0
theorem d7_ok : DigOk d7 := ⟨by simp [d7], fun b hb => by
  simp only [d7, List.mem_cons, List.mem_replicate] at hb
  omega⟩
def e7 : List (List Int × Int) := [(d7, 5)]
theorem e7_ok : ∀ p ∈ e7, EntOk p := by
  intro p hp
  obtain rfl : p = (d7, 5) := by simpa [e7] using hp
  exact ⟨d7_ok, by constructor <;> decide⟩

def f7 : List Int → Option Int := upd (fun _ => none) d7 5
theorem f7_at : f7 d7 = some 5 := by unfold f7 upd; rw [if_pos rfl]
theorem idx7 : idxS e7 = (f7, 1) := by unfold idxS; rfl
theorem put7 : putF f7 d7 5 = f7 ∧ putC f7 d7 1 = 1 ∧ old? f7 d7 5 = true := by
  have h : old? f7 d7 5 = true := by unfold old?; rw [f7_at]; rfl
  refine ⟨by unfold putF; rw [if_pos h], by unfold putC; rw [f7_at]; rfl, h⟩
theorem f7_eq (d : List Int) (t : Int) (h : f7 d = some t) : d = d7 ∧ t = 5 := by
  unfold f7 upd at h
  split at h
  · rename_i hd
    exact ⟨hd, by simpa using h.symm⟩
  · cases h

theorem len_one (L : List (List Int × Int)) (now : Int) (hm : ∀ p : List Int × Int, p ∈ L ↔ EntOk p ∧ f7 p.1 = some p.2 ∧ now ≤ p.2) (hp : L.Pairwise (fun p q => cmpE p q < 0)) (h : now ≤ 5) : L.length = 1 := by
  have h1 : (d7, 5) ∈ L := (hm _).2 ⟨e7_ok _ (by simp [e7]), f7_at, h⟩
  have h2 : ∀ p ∈ L, p = (d7, 5) := fun p hp => by
    obtain ⟨_, k, _⟩ := (hm p).1 hp
    obtain ⟨k1, k2⟩ := f7_eq _ _ k
    exact Prod.ext k1 k2
  match L, h1, h2, hp with
  | [x], _, _, _ => rfl
  | x :: y :: r, _, h2, hp =>
    have e1 := h2 x (by simp)
    have e2 := h2 y (by simp)
    have := (List.pairwise_cons.1 hp).1 y (by simp)
    rw [e1, e2, (cmpE_zero _ _).2 rfl] at this
    omega
theorem len_zero (L : List (List Int × Int)) (now : Int) (hm : ∀ p : List Int × Int, p ∈ L ↔ EntOk p ∧ f7 p.1 = some p.2 ∧ now ≤ p.2) (h : 5 < now) : L.length = 0 := by
  match L, hm with
  | [], _ => rfl
  | x :: r, hm =>
    obtain ⟨_, k, k3⟩ := (hm x).1 (by simp)
    have := (f7_eq _ _ k).2
    omega
theorem live7 (d : List Int) : liveF f7 6 d = none := by
  unfold liveF
  cases h : f7 d with
  | none => rfl
  | some t =>
    have := (f7_eq _ _ h).2
    subst this
    rfl
theorem rkeep {w w' : World} {g : Nat} {cs : List Value} (h : w.rangeAt g 0 cs) (hb : Below w.heap.size w w') : w'.rangeAt g 0 cs := fun j u hj => Below.cell' hb (h j u hj)
theorem roff {b : Nat} {w w' : World} {g : Nat} {cs : List Value} (h : w.rangeAt g 0 cs) (ho : Off b w w') (hne : g ≠ b) : w'.rangeAt g 0 cs := fun j u hj => ho.cell (h j u hj) hne
theorem calls_w {P : Program} {f : FuncId} {args : Array Value} {Q : Ending → World → Prop} (w' : World) (h : ∀ w1, w1 = w' → Calls P f args w1 Q) : Calls P f args w' Q := h _ rfl

attribute [irreducible] d7 f7

set_option maxRecDepth 100000 in
set_option maxHeartbeats 4000000 in
theorem awake_any (w : World) :
    Calls Try.prog 8 #[] w fun e w' => e = .returned (.bool true) ∧ Below w.heap.size w w' := by
  have hu : (u8s d7).toArray = #[.int .u8 7, .int .u8 0, .int .u8 0, .int .u8 0, .int .u8 0, .int .u8 0, .int .u8 0, .int .u8 0, .int .u8 0, .int .u8 0, .int .u8 0, .int .u8 0, .int .u8 0, .int .u8 0, .int .u8 0, .int .u8 0, .int .u8 0, .int .u8 0, .int .u8 0, .int .u8 0, .int .u8 0, .int .u8 0, .int .u8 0, .int .u8 0, .int .u8 0, .int .u8 0, .int .u8 0, .int .u8 0, .int .u8 0, .int .u8 0, .int .u8 0, .int .u8 0] := by unfold d7; rfl
  have HU := Lib.hid hu
  clear hu
  have h1 := u8s_one d7
  have h32 : (u8s d7).length = 32 := by simp [u8s, d7_ok.len]
  have hbuild := build_ent d7 5 d7_ok.len
  have hent := entC_length d7_ok 5
  have hbuild2 := build_one d7 5 d7_ok
  have hbuild3 := build_size
  go_enter Try.func8, Try.ntmps8
  dsimp only [List.append]
  go_wp2_with (first
    | (refine stNew (cells := (u8s d7).toArray) 26 (.tmp 1) (.tmp 6) rfl rfl rfl (congrArg Value.agg HU.out).symm (by simp only [List.size_toArray, h32]; kernel_rfl) (by simp only [List.size_toArray, h32] <;> rfl) h1 ?_; intro w1 hblk hb1 hs1; have hr1 := Blk.range hblk; rw [List.toList_toArray] at hr1; clear hs1)
    | (refine ld 26 (.tmp 1) rfl rfl rfl hr1 Try.underlying26 rfl (by rw [h32]; kernel_rfl) ?_))
  have hb2 : Below w.heap.size w (w1.alloc (.cells (entC d7 5).toArray 31)) := balloc hb1 _
  have hba : Below w1.heap.size w1 (w1.alloc (.cells (entC d7 5).toArray 31)) := (by repeat (first | exact Below.refl _ _ | assumption | refine bdrewN ?_ _ | refine Below.setCell ?_ (by first | exact Nat.le_refl _ | assumption | omega | (simp <;> omega)) _ | refine Below.alloc ?_ (by first | exact Nat.le_refl _ | assumption | omega | (simp <;> omega)) _))
  have hr2 := rkeep hr1 hba
  have hsn : Sn (w1.alloc (.cells (entC d7 5).toArray 31)) 33 (.slice (some ⟨w1.heap.size, 0, none⟩) 1 1) 1 (e7.flatMap entP) := by
    have h := Sn.new w1 (entC d7 5).toArray 31 33 1 (by simp [hent])
    rw [List.toList_toArray] at h
    simpa [e7, entP] using h
  have hw1s : w.heap.size < w1.heap.size := Blk.lt hblk
  refine calls_w (w1.alloc (.cells (entC d7 5).toArray 31)) (fun w2 hw2 => ?_)
  have hs2 : w.heap.size < w2.heap.size := by rw [hw2]; simp; omega
  rw [← hw2] at hb2 hr2 hsn
  clear hw2 hba hr1 hblk hb1 hw1s
  have hnew := new_any _ e7 w2 hsn e7_ok (by decide)
  rw [idx7] at hnew
  refine hnew.mono ?_
  clear hnew hsn
  rintro e w3 ⟨g, b, rfl, hX, hgl, hbl, hb3⟩
  have hr3 := rkeep hr2 hb3
  have hb03 := bstep hb2 hb3
  clear hb2 hb3 hr2
  have hbb : w.heap.size ≠ b := by omega
  have hbl2 : w.heap.size ≤ b := by omega
  have hX3 : IX w3 g b 1 f7 1 := hX
  clear hX
  have F := f7_at
  have FH := Lib.hid F
  clear F
  go_wp2_with (refine ld 26 (.tmp 1) rfl rfl rfl hr3 Try.underlying26 rfl (by rw [h32]; kernel_rfl) ?_)
  have hget := get_any g b 1 1 f7 d7 w3 hX3 d7_ok
  rw [FH.out] at hget
  refine hget.mono ?_
  clear hget
  rintro e w4 ⟨rfl, hb4⟩
  have hr4 := rkeep hr3 hb4
  have hX4 := hX3.keep hb4
  have hb04 := bstep hb03 hb4
  clear hb4 hr3 hX3 hb03
  go_wp2_with ((refine ld 26 (.tmp 1) rfl rfl rfl hr4 Try.underlying26 rfl (by rw [h32]; kernel_rfl) ?_))
  have hhas := has_any g b 1 1 f7 d7 5 w4 hX4 d7_ok
  rw [FH.out] at hhas
  refine hhas.mono ?_
  clear hhas
  rintro e w5 ⟨rfl, hb5⟩
  have hr5 := rkeep hr4 hb5
  have hX5 := hX4.keep hb5
  have hb05 := bstep hb04 hb5
  clear hb5 hr4 hX4 hb04
  go_wp2_with (refine ld 26 (.tmp 1) rfl rfl rfl hr5 Try.underlying26 rfl (by rw [h32]; kernel_rfl) ?_)
  have hhas := has_any g b 1 1 f7 d7 6 w5 hX5 d7_ok
  rw [FH.out] at hhas
  refine hhas.mono ?_
  clear hhas
  rintro e w6 ⟨rfl, hb6⟩
  have hr6 := rkeep hr5 hb6
  have hX6 := hX5.keep hb6
  have hb06 := bstep hb05 hb6
  clear hb6 hr5 hX5 hb05
  go_wp2_with (refine ld 26 (.tmp 1) rfl rfl rfl hr6 Try.underlying26 rfl (by rw [h32]; kernel_rfl) ?_)
  refine (count_any g b 1 1 f7 w6 hX6).mono ?_
  rintro e w7 ⟨rfl, rfl⟩
  go_wp2_with (refine ld 26 (.tmp 1) rfl rfl rfl hr6 Try.underlying26 rfl (by rw [h32]; kernel_rfl) ?_)
  have hput := put_any g b 1 1 f7 d7 5 w6 hX6 d7_ok (by constructor <;> decide) (by unfold maxLen; decide)
  rw [put7.1, put7.2.1, put7.2.2] at hput
  refine hput.mono ?_
  clear hput
  rintro e w8 ⟨rfl, hX8, hoff8⟩
  have hr8 := roff hr6 hoff8 hbb
  have hb08 := hb06.trans (hoff8.below (by omega) hb06.size)
  clear hoff8 hr6 hX6 hb06
  go_wp2_with (refine ld 26 (.tmp 1) rfl rfl rfl hr8 Try.underlying26 rfl (by rw [h32]; kernel_rfl) ?_)
  refine (live_walk g b 2 1 f7 5 w8 hX8 (by decide)).mono ?_
  rintro e w9 ⟨v9, L9, rfl, hsn9, hm9, hp9, hb9⟩
  have hl9 := len_one L9 5 hm9 hp9 (by decide)
  rw [hl9] at hsn9
  obtain ⟨A9, cap9, rfl, _, _, _⟩ := hsn9
  have hr9 := rkeep hr8 hb9
  have hX9 := hX8.keep hb9
  have hb09 := bstep hb08 hb9
  clear hb9 hr8 hX8 hb08 hm9 hp9 hl9
  go_wp2_with (refine ld 26 (.tmp 1) rfl rfl rfl hr9 Try.underlying26 rfl (by rw [h32]; kernel_rfl) ?_)
  refine (live_walk g b 2 1 f7 6 w9 hX9 (by decide)).mono ?_
  rintro e w10 ⟨v10, L10, rfl, hsn10, hm10, hp10, hb10⟩
  have hl10 := len_zero L10 6 hm10 (by decide)
  rw [hl10] at hsn10
  obtain ⟨A10, cap10, rfl, _, _, _⟩ := hsn10
  have hX10 := hX9.keep hb10
  have hb010 := bstep hb09 hb10
  clear hb10 hr9 hX9 hb09 hm10 hp10 hl10
  go_wp2_with fail
  refine (drop_any g b 2 1 f7 6 w10 hX10 (by decide)).mono ?_
  rintro e w11 ⟨k, c', rfl, hk, hX11, hoff11⟩
  have hz := hX11.2.2.zero (fun d _ => live7 d)
  subst hz
  obtain rfl : k = 1 := by omega
  have hb011 := hb010.trans (hoff11.below (by omega) hb010.size)
  clear hoff11 hX10 hb010
  go_wp2_with fail
  refine (count_any g b 2 0 _ w11 hX11).mono ?_
  rintro e w12 ⟨rfl, rfl⟩
  clear hX11
  go_wp2_with fail
  refine (nil_put _ w11).mono ?_
  rintro e w13 ⟨rfl, hb13⟩
  go_wp2_with fail
  refine (nil_count w13).mono ?_
  rintro e w14 ⟨rfl, rfl⟩
  go_wp2_with fail
  refine (nil_drop 0 w13).mono ?_
  rintro e w15 ⟨rfl, rfl⟩
  go_wp2_with fail
  go_ret
  exact ⟨rfl, bstep hb011 hb13⟩
end Go.Proofs.Ytlhehnghplchfaa
