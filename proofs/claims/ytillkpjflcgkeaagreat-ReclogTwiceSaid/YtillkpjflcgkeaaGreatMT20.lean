import Derived.Test.YtillkpjflcgkeaaGreatMT19
import Derived.Test.YtillkpjflcgkeaaGreatMT13
set_option linter.unusedSimpArgs false
set_option maxRecDepth 100000
namespace Go.Proofs.YtillkpjflcgkeaaGreat
open Go.RowKit
attribute [local irreducible] wpQuiet wpAnyH
def rfillW : RefD → Int → List (List Int) → RefD × Int
 | r, _, [] => (rsyncD r, rsyncA r)
 | r, a, s :: L => if rwriteA r a = 0 then rfillW (rwriteD r a s) (a + 1) L else (rwriteD r a s, rwriteA r a)
def rfillD (r : RefD) (f z : Int) (g : Nat) (l : List Ent2) : RefD × Int :=
 if max (z - 1) 0 < l.length then (r, 13) else if l.all rightE then rfillW r (f + 1) (l.map (entRec g)) else (r, 15)
theorem radd_bd (r : RefD) (a : Int) (s : List Int) : (radd r a s).opn.length ≤ r.opn.length + 1 ∧ (radd r a s).steps = r.steps := by
 unfold radd
 split
 ·exact ⟨by simp, rfl⟩
 ·exact ⟨by omega, rfl⟩
theorem rwrite_bd (r : RefD) (a : Int) (s : List Int) : (rwriteD r a s).opn.length ≤ r.opn.length + 1 ∧ (rwriteD r a s).steps ≤ r.steps + 1 := by
 have h := radd_bd (rstep r) a s
 have e : (rstep r).steps = r.steps + 1 := rfl
 have e2 : (rstep r).opn = r.opn := rfl
 unfold rwriteD
 split
 ·omega
 ·split
  ·exact ⟨Nat.zero_le _, by show (radd (rstep r) a s).steps ≤ _; omega⟩
  ·split
   ·rw [e, e2]; omega
   ·rw [e2] at h; omega
theorem rfillW_cons (r : RefD) (a : Int) (L : List (List Int)) (k : Nat) (hk : k < L.length) : rfillW r a (L.drop k) = if rwriteA r a = 0 then rfillW (rwriteD r a L[k]) (a + 1) (L.drop (k + 1)) else (rwriteD r a L[k], rwriteA r a) := by
 rw [List.drop_eq_getElem_cons hk]
 rfl
theorem Blk.setAll {w : World} {g : Nat} {t : TypeId} {old : Array Value} (new : List Value) (hB : Blk w g t old) (hl : old.size = new.length) : Blk (w.setCells g 0 new) g t new.toArray := by
 have h := setCells_partM (w := w) (g := g) (t := t) [] old.toList [] new (by simpa using hB) (by simpa using hl)
 have h := h.1
 simpa using h
theorem there_all {w : World} {g : Nat} {t : TypeId} {old : Array Value} (hB : Blk w g t old) {n : Nat} (hl : old.size = n) : w.there g 0 n := there_blk hB (by omega)
structure RB (w wr : World) (m : RM) (r : RefD) (mk : RM) (rk : RefD) : Prop where
 ba : Blk wr w.heap.size 31 (refC mk rk)
 bz : Blk wr (w.heap.size + 1) 31 refZ
 k : RK wr mk rk
 bw : Below w.heap.size w wr
 sub : ∀ b ∈ rowsOf mk rk, b ∈ rowsOf m r ∨ w.heap.size + 2 ≤ b
theorem RB.keep {w wr wx : World} {m : RM} {r : RefD} {mk : RM} {rk : RefD} (h : RB w wr m r mk rk) (hb : Below wr.heap.size wr wx) : RB w wx m r mk rk := ⟨h.ba.keep hb, h.bz.keep hb, h.k.keep hb, bstep h.bw hb, h.sub⟩
theorem RB.notA {w wr : World} {m : RM} {r : RefD} {mk : RM} {rk : RefD} (h : RB w wr m r mk rk) (h0 : RK w m r) : w.heap.size ∉ rowsOf mk rk ∧ w.heap.size + 1 ∉ rowsOf mk rk :=
  ⟨fun hm => by rcases h.sub _ hm with h | h
                · have := h0.bl _ h; omega
                · omega, fun hm => by rcases h.sub _ hm with h | h
                                      · have := h0.bl _ h; omega
                                      · omega⟩
set_option maxHeartbeats 4000000 in
theorem ref_fill (m : RM) (r : RefD) (f z : Int) (g : Nat) (l : List Ent2) (Al : Option Addr) (cl : Nat) (w : World) (h : RK w m r) (hl : Sn w 33 (.slice Al l.length cl) l.length (l.flatMap entP)) (hok : ∀ q ∈ l, EntOk q)
  (hf : 0 ≤ f ∧ f ≤ 100000) (hz : -100000 ≤ z ∧ z ≤ 100000) (hll : l.length ≤ 10000) (hst : r.steps + 20000 ≤ 1000000000) (ho : r.opn.length + 20000 ≤ 50000) :
  Calls Tryz.prog 49 #[.agg (refC m r), .int .i64 f, .int .i64 z, .int .u32 g, .slice Al l.length cl] w fun e w' => ∃ m', e = .returned (.tuple #[.agg (refC m' (rfillD r f z g l).1), .int .i64 (rfillD r f z g l).2]) ∧ RK w' m' (rfillD r f z g l).1 ∧ Below w.heap.size w w' ∧ ∀ b ∈ rowsOf m' (rfillD r f z g l).1, b ∈ rowsOf m r ∨ w.heap.size ≤ b := by
 have HK := Lib.hid h
 have HL := Lib.hid hl
 have HOK := Lib.hid hok
 have f1 : 0 ≤ f := hf.1
 have f2 : f ≤ 100000 := hf.2
 have z1 : -100000 ≤ z := hz.1
 have z2 : z ≤ 100000 := hz.2
 have hlen : ∀ m r, (Tryz.prog.info? 31).map (·.size) = some (refC m r).toList.length := fun _ _ => refI
 obtain ⟨w1, hw1⟩ : ∃ w1, w1 = (w.alloc (.cells (refC m r) 31)).alloc (.cells refZ 31) := ⟨_, rfl⟩
 have hA1 : Blk w1 w.heap.size 31 (refC m r) := by rw [hw1]; exact (Blk.new _ _ _).alloc _
 have hB1 : Blk w1 (w.heap.size + 1) 31 refZ := by rw [hw1]; exact Blk.newAt _ _ _ _ (by simp)
 have hb1 : Below w.heap.size w w1 := by rw [hw1]; exact bstep (bel1 _ _) (bel1 _ _)
 have HRB : Hid (RB w w1 m r m r) := Lib.hid ⟨hA1, hB1, h.keep hb1, hb1, fun b hb => .inl hb⟩
 have hr1 := hA1.range
 have HR1 := Lib.hid hr1
 have h1 : (refC m r).all (·.oneCell') = true := refC_one h
 obtain ⟨M, hM⟩ : ∃ M : Int, M = max (z - 1) 0 := ⟨_, rfl⟩
 have hM1 : max (z - 1) 0 = M := hM.symm
 have hMb : 0 ≤ M ∧ M ≤ 100000 := by omega
 clear h hl hok hf hz hA1 hB1 hb1 hr1
 have hlc : (l.length : Int) ≤ 10000 := by omega
 rcases Bool.eq_false_or_eq_true (decide (M < (l.length : Int))) with t1 | t1
 ·have HF : Hid (rfillD r f z g l = (r, 13)) := jz (by unfold rfillD; rw [hM1, if_pos (of_decide_eq_true t1)])
  clear hM
  go_enter Tryz.func49, Tryz.ntmps49
  go_upto_region 1 with (refine al 31 refZ rfl rfl zeroRef ?_)
  rw [← hw1]
  clear hw1
  go_wp2_with (first
   | (refine ld 31 _ rfl rfl rfl HR1.out Tryz.underlying31 rfl (hlen m r) ?_)
   | (refine stBlk (cells := refC m r) 31 (.tmp 10) (.tmp 21) rfl rfl rfl rfl HRB.out.bz refI rfl h1 ?_; intro w4 hB4 hb4 ho4 hs4; have HB4 := Lib.hid hB4; have HE4 := Lib.hid hb4; clear hB4 hb4 ho4 hs4))
  have hbw : Below w.heap.size w w4 := HRB.out.bw.trans (HE4.out.mono (by omega))
  have hr4 := HB4.out.range
  exact bodyPost_ret (results_cell1 rfl _ rfl hr4 Tryz.underlying31 rfl (hlen m r)) rfl ⟨m, by rw [HF.out]; rfl, by rw [HF.out]; exact HK.out.keep hbw, hbw, by rw [HF.out]; exact fun b hb => .inl hb⟩
 ·have HF0 : Hid (rfillD r f z g l = if l.all rightE then rfillW r (f + 1) (l.map (entRec g)) else (r, 15)) := jz (by unfold rfillD; rw [hM1, if_neg (of_decide_eq_false t1)])
  clear hM
  go_enter Tryz.func49, Tryz.ntmps49
  go_upto_region 1 with (refine al 31 refZ rfl rfl zeroRef ?_)
  rw [← hw1]
  clear hw1
  go_wp2_with fail
  go_loopw [12] (fun i wr => ∃ k : Nat, k ≤ l.length ∧ i = .int .i64 k ∧ Hid (∀ q ∈ l.take k, rightE q = true) ∧ Hid (RB w wr m r m r)) (fun i _ => l.length - (intOf i).toNat)
  case atStart => exact ⟨0, Nat.zero_le _, rfl, jz (fun q hq => by simp at hq), HRB⟩
  case round =>
   obtain ⟨k, hk, rfl, HR, HB⟩ := hrel
   rcases Nat.lt_or_ge k l.length with hlt | hge
   ·obtain ⟨b, off, hA, hr⟩ := at_elem entP EntOk 33 entP_length (HL.out.below HB.out.bw) HOK.out k hlt
    have HRW : Hid (wr.rangeAt b (off + k * 33) (entP l[k])) := Lib.hid hr
    subst hA
    have hqk := HOK.out l[k] (List.getElem_mem hlt)
    have la := entP_length l[k] hqk
    have HQK := Lib.hid hqk
    have HSN : Hid (rightE l[k] = true → ∀ q ∈ l.take (k + 1), rightE q = true) := jz (fun h q hq => by
     rw [List.take_succ_eq_append_getElem hlt] at hq
     rcases List.mem_append.1 hq with hq | hq
     ·exact HR.out q hq
     ·rw [List.mem_singleton.1 hq]; exact h)
    have HBAD : Hid (rightE l[k] = false → rfillD r f z g l = (r, 15)) := jz (fun h => by
     rw [HF0.out, if_neg]
     rw [List.all_eq_true]
     intro ha
     rw [ha _ (List.getElem_mem hlt)] at h
     cases h)
    obtain ⟨q, hq⟩ : ∃ q, q = l[k] := ⟨_, rfl⟩
    rw [← hq] at HRW la HQK HSN HBAD
    have hua : (Tryz.prog.info? 43).map (·.size) = some (entP q).length := by rw [la]; kernel_rfl
    have hi0 : (0 : Int) ≤ k := by omega
    have hi1 : (k : Int) < l.length := by omega
    clear hqk la hr hq
    go_wp2_with (refine ld 43 _ rfl rfl rfl HRW.out Tryz.underlying43 rfl hua ?_)
    refine (ref_right q wr HQK.out).mono ?_
    rintro e w2 ⟨rfl, hb2⟩
    have HB2 := jz (HB.out.keep hb2)
    clear hb2
    cases hrq : rightE q with
    | true =>
     have HSN' := jz (HSN.out hrq)
     go_wp2_with fail
     exact ⟨⟨k + 1, by omega, by go_num, HSN', HB2⟩, by simp [intOf]; omega⟩
    | false =>
     have HF := jz (HBAD.out hrq)
     have hr2 := HB2.out.ba.range
     go_wp2_with (first
      | (refine ld 31 _ rfl rfl rfl hr2 Tryz.underlying31 rfl (hlen m r) ?_)
      | (refine stBlk (cells := refC m r) 31 (.tmp 10) (.tmp 34) rfl rfl rfl rfl HB2.out.bz refI rfl h1 ?_; intro w4 hB4 hb4 ho4 hs4; have HB4 := Lib.hid hB4; have HE4 := Lib.hid hb4; clear hB4 hb4 ho4 hs4))
     have hbw : Below w.heap.size w w4 := HB2.out.bw.trans (HE4.out.mono (by omega))
     have hr4 := HB4.out.range
     exact bodyPost_ret (results_cell1 rfl _ rfl hr4 Tryz.underlying31 rfl (hlen m r)) rfl ⟨m, by rw [HF.out]; rfl, by rw [HF.out]; exact HK.out.keep hbw, hbw, by rw [HF.out]; exact fun b hb => .inl hb⟩
   ·obtain rfl : k = l.length := by omega
    rw [List.take_length] at HR
    have HF1 : Hid (rfillD r f z g l = rfillW r (f + 1) (l.map (entRec g))) := jz (by rw [HF0.out, if_pos (by rw [List.all_eq_true]; exact HR.out)])
    go_wp2_with fail
    obtain ⟨wo, rfl⟩ : ∃ wo : World, wo = wr := ⟨_, rfl⟩
    go_loopw [13] (fun i wr => ∃ k : Nat, k ≤ l.length ∧ i = .int .i64 k ∧ Hid (∃ mk rk, RB w wr m r mk rk ∧ rfillD r f z g l = rfillW rk (f + 1 + k) ((l.map (entRec g)).drop k) ∧ rk.opn.length ≤ r.opn.length + k ∧ rk.steps ≤ r.steps + k)) (fun i _ => l.length - (intOf i).toNat)
    case atStart => exact ⟨0, Nat.zero_le _, rfl, Lib.hid ⟨m, r, HB.out, by rw [HF1.out]; simp, by omega, by omega⟩⟩
    case round =>
     obtain ⟨k, hk, rfl, HX⟩ := hrel
     obtain ⟨mk, rk, hRB, hval, hol, hsl⟩ := HX.out
     have HRK := Lib.hid hRB
     have HVAL := Lib.hid hval
     have h1k : (refC mk rk).all (·.oneCell') = true := refC_one hRB.k
     clear hRB hval HX
     rcases Nat.lt_or_ge k l.length with hlt | hge
     ·obtain ⟨b, off, hA, hr⟩ := at_elem entP EntOk 33 entP_length (HL.out.below HRK.out.bw) HOK.out k hlt
      subst hA
      have hblt : b < w.heap.size := HL.out.blk_lt (by omega) (by omega) b rfl
      have hqk := HOK.out l[k] (List.getElem_mem hlt)
      have la := entP_length l[k] hqk
      have HQK := Lib.hid hqk
      have HRQ := jz (HR.out _ (List.getElem_mem hlt))
      have HNX : Hid (rfillD r f z g l = if rwriteA rk (f + 1 + k) = 0 then rfillW (rwriteD rk (f + 1 + k) (entRec g l[k])) (f + 1 + k + 1) ((l.map (entRec g)).drop (k + 1)) else (rwriteD rk (f + 1 + k) (entRec g l[k]), rwriteA rk (f + 1 + k))) := jz (by
       rw [HVAL.out, rfillW_cons _ _ _ k (by simpa using hlt)]
       simp)
      obtain ⟨q, hq⟩ : ∃ q, q = l[k] := ⟨_, rfl⟩
      rw [← hq] at hr la HQK HRQ HNX
      have HUQ : Hid ((Tryz.prog.info? 43).map (·.size) = some (entP q).length) := jz (by rw [la]; kernel_rfl)
      have hi0 : (0 : Int) ≤ k := by omega
      have hi1 : (k : Int) < l.length := by omega
      obtain ⟨wS, hwS⟩ : ∃ wS, wS = wr.drew := ⟨_, rfl⟩
      have hbS : Below wr.heap.size wr wS := by rw [hwS]; exact (Below.refl _ _).drew
      have HRS := jz (HRK.out.keep hbS)
      have HRE : Hid (wS.rangeAt b (off + k * 33) (entP q)) := jz (fun i u hi => Below.cell' hbS (hr i u hi))
      have hbd := rwrite_bd rk (f + 1 + k) (entRec g q)
      have HSE : Hid (Sec (entRec g q)) := jz (entRec_sec g HQK.out)
      have hEl := entRec_len HQK.out
      have hEb : Bys (q.1 ++ beB 8 q.2.toNat) := fun x hx => by
       rcases List.mem_append.1 hx with hx | hx
       ·exact HQK.out.dig.byte x hx
       ·exact beB_bys _ _ x hx
      have HMK := jz (fun (v : Value) (W : World) (hs : Sn W 1 v (q.1 ++ beB 8 q.2.toNat).length (u8s (q.1 ++ beB 8 q.2.toNat))) => (show Calls Tryz.prog 26 #[.int .u32 g, v] W fun e w' => e = .returned (.agg (u8s (entRec g q)).toArray) ∧ Below W.heap.size W w' from ref_make g (q.1 ++ beB 8 q.2.toNat) v W hs hEb hEl))
      have HPY := jz (fun W => ref_payload q W HQK.out HRQ.out)
      have h40 : Hid ((q.1 ++ beB 8 q.2.toNat).length = 40) := jz (by rw [List.length_append, HQK.out.dig.len, beB_length])
      have HWR := jz (fun (W : World) (hb : Below wS.heap.size wS W) => ref_write mk rk (f + 1 + k) (entRec g q) W (HRS.out.k.keep hb) HSE.out ⟨by omega, by omega⟩ (by omega) (by omega))
      have HSK : Hid (∀ W, Below wS.heap.size wS W → W.rangeAt b (off + k * 33) (entP q)) := jz (fun W hb i u hi => Below.cell' hb (HRE.out i u hi))
      obtain ⟨A, hA⟩ : ∃ A, A = f + 1 + (k : Int) := ⟨_, rfl⟩
      have HAA := Lib.hid hA
      have HAn : Hid (A + 1 = f + 1 + ((k + 1 : Nat) : Int)) := jz (by omega)
      have hA0 : 0 ≤ A ∧ A ≤ 200000 := by omega
      rw [← hA] at HNX HWR hbd
      clear hr la hq hbS hA hEl hEb
      go_upto_region 12 with fail
      refine held_start 18 (fun w' => w'.rangeAt b (off + k * 33) (entP q)) (by kernel_rfl) (by kernel_rfl) (by rw [← hwS]; exact HRE.out) (fun hHeld => ?_)
      rw [← hwS] at hHeld ⊢
      clear hwS
      refine jM 1 (.tmp 1) (some 43) (.int .i64 f) hHeld ?_
      simp only [j1, j2, j3, j4, j5]
      refine jT 2 (.binOp .add 3 (.tmp 43) (.const (.int .i64 1)) 3) (some 44) (.int .i64 (f + 1)) (hy := fun o ho wX hX => by unfold execOp; simp only [ho]; go_simp; exact IntWalk.i64_in _ (by omega)) hHeld ?_
      simp only [j1, j2, j3, j4, j5]
      refine jM 3 (.tmp 13) (some 45) (.int .i64 (k : Int)) hHeld ?_
      simp only [j1, j2, j3, j4, j5]
      refine jT 4 (.binOp .add 3 (.tmp 44) (.tmp 45) 3) (some 46) (.int .i64 A) (hy := fun o ho wX hX => by have hAA := HAA.out; unfold execOp; simp only [ho]; go_simp; exact IntWalk.i64_in _ (by omega)) hHeld ?_
      simp only [j1, j2, j3, j4, j5]
      refine jM 5 (.tmp 3) (some 47) (.int .u32 g) hHeld ?_
      simp only [j1, j2, j3, j4, j5]
      refine jM 6 (.tmp 4) (some 48) (.slice (some ⟨b, off, none⟩) l.length cl) hHeld ?_
      simp only [j1, j2, j3, j4, j5]
      refine jM 7 (.tmp 13) (some 49) (.int .i64 (k : Int)) hHeld ?_
      simp only [j1, j2, j3, j4, j5]
      refine jT 8 (.indexAddr 34 (.tmp 48) (.tmp 49)) (some 50) (.pointer (some ⟨b, off + k * 33, none⟩)) hHeld ?_
      simp only [j1, j2, j3, j4, j5]
      refine jL 9 43 (.tmp 50) (some 51) (cs := entP q) (fun _ hX => hX) Tryz.underlying43 rfl HUQ.out hHeld ?_
      simp only [j1, j2, j3, j4, j5]
      refine jW [0, 10] ?_
      refine rLoadS 0 31 (.tmp 5) (some 42) (cs := (refC mk rk).toList) (by kernel_rfl) (by kernel_rfl) (by exact rfl) ((HRS.out.keep (Below.refl _ wS)).ba.range) Tryz.underlying31 rfl (hlen mk rk) (HSK.out _ (Below.refl _ wS)) ?_ (jC 10 (.call { callee := .value (.func 27), args := #[.tmp 51], argTypes := #[43] }) (some 52) 27 #[.agg (entP q).toArray] ?_ jN)
      ·simp only [j1, j2, j3, j4, j5]
       refine jW [10] ?_
       refine jC 10 (.call { callee := .value (.func 27), args := #[.tmp 51], argTypes := #[43] }) (some 52) 27 #[.agg (entP q).toArray] ?_ jN
       refine (HPY.out wS).mono ?_
       rintro e w12 ⟨v12, rfl, ho12, hb12⟩
       have hBk2 := bstep (Below.refl _ wS) hb12
       refine ⟨_, rfl, HSK.out _ hBk2, fun _ => ?_⟩
       simp only [j1, j2, j3, j4, j5]
       refine jW [11] ?_
       refine jC 11 (.call { callee := .value (.func 26), args := #[.tmp 47, .tmp 52], argTypes := #[35, 74] }) (some 53) 26 #[.int .u32 g, v12] ?_ jN
       refine (HMK.out v12 w12 (by rw [h40.out]; exact Sn.own ho12)).mono ?_
       rintro e w13 ⟨rfl, hb13⟩
       have hBk3 := bstep hBk2 hb13
       refine ⟨_, rfl, HSK.out _ hBk3, fun _ => ?_⟩
       simp only [j1, j2, j3, j4, j5]
       refine jW [12] ?_
       refine jC 12 (.call { callee := .value (.func 28), args := #[.tmp 42, .tmp 46, .tmp 53], argTypes := #[31, 3, 72] }) (some 54) 28 #[.agg (refC mk rk), .int .i64 A, .agg (u8s (entRec g q)).toArray] ?_ jN
       refine (HWR.out w13 hBk3).mono ?_
       rintro e w9 ⟨m9, rfl, hk9, hb9, hr9⟩
       have hB9 := bstep hBk3 hb9
       refine ⟨_, rfl, HSK.out _ hB9, fun hH => ?_⟩
       simp only [j1, j2, j3, j4, j5]
       refine jT 13 (.move (.tmp 54)) (some 41) (.tuple #[.agg (refC m9 (rwriteD rk A (entRec g q))), .int .i64 (rwriteA rk A)]) (by assumption) ?_
       simp only [j1, j2, j3, j4, j5]
       refine jT 14 (.extract (.tmp 41) 0) (some 55) (.agg (refC m9 (rwriteD rk A (entRec g q)))) (by assumption) ?_
       simp only [j1, j2, j3, j4, j5]
       refine jT 15 (.extract (.tmp 41) 1) (some 56) (.int .i64 (rwriteA rk A)) (by assumption) ?_
       simp only [j1, j2, j3, j4, j5]
       have h9 := HRS.out.keep hB9
       have hS9 : ∀ W : World, (∀ k, k ≠ w.heap.size → W.heap[k]? = w9.heap[k]?) → W.rangeAt b (off + k * 33) (entP q) := fun W hk i u hi => (World.cell?_of_block (a := ⟨b, off + k * 33 + i, none⟩) (hk b (by omega))).trans (HSK.out _ hB9 i u hi)
       have hoth : ∀ k, k ≠ w.heap.size → (w9.setCells w.heap.size 0 (refC m9 (rwriteD rk A (entRec g q))).toList).heap[k]? = w9.heap[k]? := fun k hk => setCells_other hk _ _ _
       have hone9 : ∀ u ∈ (refC m9 (rwriteD rk A (entRec g q))).toList, u.oneCell' = true := fun u hu => by have := refC_one hk9; rw [Array.all_eq_true_iff_forall_mem] at this; exact this u (by simpa using hu)
       refine jW [16] ?_
       refine jR 16 31 (.tmp 5) (.tmp 55) none (cs := (refC m9 (rwriteD rk A (entRec g q))).toList) (there_all h9.ba rfl) (hlen _ _) hone9 (hS9 _ hoth) ?_ jN
       simp only [j1, j2, j3, j4, j5]
       refine jW [17] ?_
       refine jS 17 (.assign (.tmp 56)) (some 14) (.int .i64 (rwriteA rk A)) (w9.setCells w.heap.size 0 (refC m9 (rwriteD rk A (entRec g q))).toList) (hS9 _ hoth) ?_ jN
       simp only [j1, j2, j3, j4, j5]
       refine wpAnyH_done (by kernel_rfl) ?_ _
       have hX : RB w (w9.setCells w.heap.size 0 (refC m9 (rwriteD rk A (entRec g q))).toList) m r m9 (rwriteD rk A (entRec g q)) := by
        have hsz : (w9.setCells w.heap.size 0 (refC m9 (rwriteD rk A (entRec g q))).toList).heap.size = w9.heap.size := (setCells_below (B := 0) (Nat.zero_le _) _ _ _).2
        have hsub : ∀ b ∈ rowsOf m9 (rwriteD rk A (entRec g q)), b ∈ rowsOf m r ∨ w.heap.size + 2 ≤ b := fun b hm => by
         rcases hr9 b hm with h | h
         ·exact HRS.out.sub b h
         ·have := (HRS.out.keep hBk3).bz.lt; exact .inr (by omega)
        refine ⟨Blk.setAll _ h9.ba rfl, (hoth _ (by omega)).trans h9.bz, hk9.offK hoth (by omega) (fun hm => ?_), h9.bw.trans (setCells_below (Nat.le_refl _) _ _ _).1, hsub⟩
        rcases hsub _ hm with h | h
        ·have := HK.out.bl _ h; omega
        ·omega
       have HXX := Lib.hid hX
       obtain ⟨wz, hwz⟩ : ∃ wz, wz = w9.setCells w.heap.size 0 (refC m9 (rwriteD rk A (entRec g q))).toList := ⟨_, rfl⟩
       rw [← hwz] at HXX ⊢
       clear hX hwz hS9 hoth h9 hone9 hB9 hk9 hb9 hr9 hH
       rcases Bool.eq_false_or_eq_true (rwriteA rk A == 0) with tz | tz
       ·have hz0 : rwriteA rk A = 0 := by simpa using tz
        have HV2 : Hid (rfillD r f z g l = rfillW (rwriteD rk A (entRec g q)) (f + 1 + ((k + 1 : Nat) : Int)) ((l.map (entRec g)).drop (k + 1))) := jz (by rw [HNX.out, if_pos hz0, HAn.out])
        rw [hz0]
        go_wp2_with fail
        exact ⟨⟨k + 1, by omega, by go_num, Lib.hid ⟨m9, _, HXX.out, HV2.out, by omega, by omega⟩⟩, by simp [intOf]; omega⟩
       ·have hz0 : rwriteA rk A ≠ 0 := by simpa using tz
        have HV2 : Hid (rfillD r f z g l = (rwriteD rk A (entRec g q), rwriteA rk A)) := jz (by rw [HNX.out, if_neg hz0])
        have hrz := HXX.out.ba.range
        have h19 := refC_one HXX.out.k
        have tz2 : (rwriteA rk A != 0) = true := by simpa using hz0
        go_wp2_with (first
         | (refine ld 31 _ rfl rfl rfl hrz Tryz.underlying31 rfl (hlen _ _) ?_)
         | (refine stBlk (cells := refC m9 (rwriteD rk A (entRec g q))) 31 (.tmp 10) (.tmp 59) rfl rfl rfl rfl HXX.out.bz refI rfl h19 ?_; intro w7 hB7 hb7 ho7 hs7; have HB7 := Lib.hid hB7; have HE7 := Lib.hid hb7; have HO7 := Lib.hid ho7; have HS7 := Lib.hid hs7; clear hB7 hb7 ho7 hs7))
        have hbw : Below w.heap.size w w7 := HXX.out.bw.trans (HE7.out.mono (by omega))
        have hr7 := HB7.out.range
        exact bodyPost_ret (results_cell1 rfl _ rfl hr7 Tryz.underlying31 rfl (hlen _ _)) rfl ⟨m9, by rw [HV2.out]; rfl, by rw [HV2.out]; exact HXX.out.k.offK HO7.out (by rw [HS7.out]; exact Nat.le_refl _) (HXX.out.notA HK.out).2, hbw, fun b hm => by
         rw [HV2.out] at hm
         rcases HXX.out.sub b hm with h | h
         ·exact .inl h
         ·exact .inr (by omega)⟩
      ·refine (HPY.out wS).mono ?_
       rintro e w15 ⟨v15, rfl, ho15, hb15⟩
       have hBk5 := bstep (Below.refl _ wS) hb15
       refine ⟨_, rfl, HSK.out _ hBk5, fun _ => ?_⟩
       simp only [j1, j2, j3, j4, j5]
       refine jW [0, 11] ?_
       refine rLoadS 0 31 (.tmp 5) (some 42) (cs := (refC mk rk).toList) (by kernel_rfl) (by kernel_rfl) (by exact rfl) ((HRS.out.keep hBk5).ba.range) Tryz.underlying31 rfl (hlen mk rk) (HSK.out _ hBk5) ?_ (jC 11 (.call { callee := .value (.func 26), args := #[.tmp 47, .tmp 52], argTypes := #[35, 74] }) (some 53) 26 #[.int .u32 g, v15] ?_ jN)
       ·simp only [j1, j2, j3, j4, j5]
        refine jW [11] ?_
        refine jC 11 (.call { callee := .value (.func 26), args := #[.tmp 47, .tmp 52], argTypes := #[35, 74] }) (some 53) 26 #[.int .u32 g, v15] ?_ jN
        refine (HMK.out v15 w15 (by rw [h40.out]; exact Sn.own ho15)).mono ?_
        rintro e w17 ⟨rfl, hb17⟩
        have hBk7 := bstep hBk5 hb17
        refine ⟨_, rfl, HSK.out _ hBk7, fun _ => ?_⟩
        simp only [j1, j2, j3, j4, j5]
        refine jW [12] ?_
        refine jC 12 (.call { callee := .value (.func 28), args := #[.tmp 42, .tmp 46, .tmp 53], argTypes := #[31, 3, 72] }) (some 54) 28 #[.agg (refC mk rk), .int .i64 A, .agg (u8s (entRec g q)).toArray] ?_ jN
        refine (HWR.out w17 hBk7).mono ?_
        rintro e w9 ⟨m9, rfl, hk9, hb9, hr9⟩
        have hB9 := bstep hBk7 hb9
        refine ⟨_, rfl, HSK.out _ hB9, fun hH => ?_⟩
        simp only [j1, j2, j3, j4, j5]
        refine jT 13 (.move (.tmp 54)) (some 41) (.tuple #[.agg (refC m9 (rwriteD rk A (entRec g q))), .int .i64 (rwriteA rk A)]) (by assumption) ?_
        simp only [j1, j2, j3, j4, j5]
        refine jT 14 (.extract (.tmp 41) 0) (some 55) (.agg (refC m9 (rwriteD rk A (entRec g q)))) (by assumption) ?_
        simp only [j1, j2, j3, j4, j5]
        refine jT 15 (.extract (.tmp 41) 1) (some 56) (.int .i64 (rwriteA rk A)) (by assumption) ?_
        simp only [j1, j2, j3, j4, j5]
        have h9 := HRS.out.keep hB9
        have hS9 : ∀ W : World, (∀ k, k ≠ w.heap.size → W.heap[k]? = w9.heap[k]?) → W.rangeAt b (off + k * 33) (entP q) := fun W hk i u hi => (World.cell?_of_block (a := ⟨b, off + k * 33 + i, none⟩) (hk b (by omega))).trans (HSK.out _ hB9 i u hi)
        have hoth : ∀ k, k ≠ w.heap.size → (w9.setCells w.heap.size 0 (refC m9 (rwriteD rk A (entRec g q))).toList).heap[k]? = w9.heap[k]? := fun k hk => setCells_other hk _ _ _
        have hone9 : ∀ u ∈ (refC m9 (rwriteD rk A (entRec g q))).toList, u.oneCell' = true := fun u hu => by have := refC_one hk9; rw [Array.all_eq_true_iff_forall_mem] at this; exact this u (by simpa using hu)
        refine jW [16] ?_
        refine jR 16 31 (.tmp 5) (.tmp 55) none (cs := (refC m9 (rwriteD rk A (entRec g q))).toList) (there_all h9.ba rfl) (hlen _ _) hone9 (hS9 _ hoth) ?_ jN
        simp only [j1, j2, j3, j4, j5]
        refine jW [17] ?_
        refine jS 17 (.assign (.tmp 56)) (some 14) (.int .i64 (rwriteA rk A)) (w9.setCells w.heap.size 0 (refC m9 (rwriteD rk A (entRec g q))).toList) (hS9 _ hoth) ?_ jN
        simp only [j1, j2, j3, j4, j5]
        refine wpAnyH_done (by kernel_rfl) ?_ _
        have hX : RB w (w9.setCells w.heap.size 0 (refC m9 (rwriteD rk A (entRec g q))).toList) m r m9 (rwriteD rk A (entRec g q)) := by
         have hsz : (w9.setCells w.heap.size 0 (refC m9 (rwriteD rk A (entRec g q))).toList).heap.size = w9.heap.size := (setCells_below (B := 0) (Nat.zero_le _) _ _ _).2
         have hsub : ∀ b ∈ rowsOf m9 (rwriteD rk A (entRec g q)), b ∈ rowsOf m r ∨ w.heap.size + 2 ≤ b := fun b hm => by
          rcases hr9 b hm with h | h
          ·exact HRS.out.sub b h
          ·have := (HRS.out.keep hBk7).bz.lt; exact .inr (by omega)
         refine ⟨Blk.setAll _ h9.ba rfl, (hoth _ (by omega)).trans h9.bz, hk9.offK hoth (by omega) (fun hm => ?_), h9.bw.trans (setCells_below (Nat.le_refl _) _ _ _).1, hsub⟩
         rcases hsub _ hm with h | h
         ·have := HK.out.bl _ h; omega
         ·omega
        have HXX := Lib.hid hX
        obtain ⟨wz, hwz⟩ : ∃ wz, wz = w9.setCells w.heap.size 0 (refC m9 (rwriteD rk A (entRec g q))).toList := ⟨_, rfl⟩
        rw [← hwz] at HXX ⊢
        clear hX hwz hS9 hoth h9 hone9 hB9 hk9 hb9 hr9 hH
        rcases Bool.eq_false_or_eq_true (rwriteA rk A == 0) with tz | tz
        ·have hz0 : rwriteA rk A = 0 := by simpa using tz
         have HV2 : Hid (rfillD r f z g l = rfillW (rwriteD rk A (entRec g q)) (f + 1 + ((k + 1 : Nat) : Int)) ((l.map (entRec g)).drop (k + 1))) := jz (by rw [HNX.out, if_pos hz0, HAn.out])
         rw [hz0]
         go_wp2_with fail
         exact ⟨⟨k + 1, by omega, by go_num, Lib.hid ⟨m9, _, HXX.out, HV2.out, by omega, by omega⟩⟩, by simp [intOf]; omega⟩
        ·have hz0 : rwriteA rk A ≠ 0 := by simpa using tz
         have HV2 : Hid (rfillD r f z g l = (rwriteD rk A (entRec g q), rwriteA rk A)) := jz (by rw [HNX.out, if_neg hz0])
         have hrz := HXX.out.ba.range
         have h19 := refC_one HXX.out.k
         have tz2 : (rwriteA rk A != 0) = true := by simpa using hz0
         go_wp2_with (first
          | (refine ld 31 _ rfl rfl rfl hrz Tryz.underlying31 rfl (hlen _ _) ?_)
          | (refine stBlk (cells := refC m9 (rwriteD rk A (entRec g q))) 31 (.tmp 10) (.tmp 59) rfl rfl rfl rfl HXX.out.bz refI rfl h19 ?_; intro w7 hB7 hb7 ho7 hs7; have HB7 := Lib.hid hB7; have HE7 := Lib.hid hb7; have HO7 := Lib.hid ho7; have HS7 := Lib.hid hs7; clear hB7 hb7 ho7 hs7))
         have hbw : Below w.heap.size w w7 := HXX.out.bw.trans (HE7.out.mono (by omega))
         have hr7 := HB7.out.range
         exact bodyPost_ret (results_cell1 rfl _ rfl hr7 Tryz.underlying31 rfl (hlen _ _)) rfl ⟨m9, by rw [HV2.out]; rfl, by rw [HV2.out]; exact HXX.out.k.offK HO7.out (by rw [HS7.out]; exact Nat.le_refl _) (HXX.out.notA HK.out).2, hbw, fun b hm => by
          rw [HV2.out] at hm
          rcases HXX.out.sub b hm with h | h
          ·exact .inl h
          ·exact .inr (by omega)⟩
       ·refine (HMK.out v15 w15 (by rw [h40.out]; exact Sn.own ho15)).mono ?_
        rintro e w19 ⟨rfl, hb19⟩
        have hBk9 := bstep hBk5 hb19
        refine ⟨_, rfl, HSK.out _ hBk9, fun _ => ?_⟩
        simp only [j1, j2, j3, j4, j5]
        refine jW [0] ?_
        refine rLoadS 0 31 (.tmp 5) (some 42) (cs := (refC mk rk).toList) (by kernel_rfl) (by kernel_rfl) (by exact rfl) ((HRS.out.keep hBk9).ba.range) Tryz.underlying31 rfl (hlen mk rk) (HSK.out _ hBk9) ?_ jN
        simp only [j1, j2, j3, j4, j5]
        refine jW [12] ?_
        refine jC 12 (.call { callee := .value (.func 28), args := #[.tmp 42, .tmp 46, .tmp 53], argTypes := #[31, 3, 72] }) (some 54) 28 #[.agg (refC mk rk), .int .i64 A, .agg (u8s (entRec g q)).toArray] ?_ jN
        refine (HWR.out w19 hBk9).mono ?_
        rintro e w9 ⟨m9, rfl, hk9, hb9, hr9⟩
        have hB9 := bstep hBk9 hb9
        refine ⟨_, rfl, HSK.out _ hB9, fun hH => ?_⟩
        simp only [j1, j2, j3, j4, j5]
        refine jT 13 (.move (.tmp 54)) (some 41) (.tuple #[.agg (refC m9 (rwriteD rk A (entRec g q))), .int .i64 (rwriteA rk A)]) (by assumption) ?_
        simp only [j1, j2, j3, j4, j5]
        refine jT 14 (.extract (.tmp 41) 0) (some 55) (.agg (refC m9 (rwriteD rk A (entRec g q)))) (by assumption) ?_
        simp only [j1, j2, j3, j4, j5]
        refine jT 15 (.extract (.tmp 41) 1) (some 56) (.int .i64 (rwriteA rk A)) (by assumption) ?_
        simp only [j1, j2, j3, j4, j5]
        have h9 := HRS.out.keep hB9
        have hS9 : ∀ W : World, (∀ k, k ≠ w.heap.size → W.heap[k]? = w9.heap[k]?) → W.rangeAt b (off + k * 33) (entP q) := fun W hk i u hi => (World.cell?_of_block (a := ⟨b, off + k * 33 + i, none⟩) (hk b (by omega))).trans (HSK.out _ hB9 i u hi)
        have hoth : ∀ k, k ≠ w.heap.size → (w9.setCells w.heap.size 0 (refC m9 (rwriteD rk A (entRec g q))).toList).heap[k]? = w9.heap[k]? := fun k hk => setCells_other hk _ _ _
        have hone9 : ∀ u ∈ (refC m9 (rwriteD rk A (entRec g q))).toList, u.oneCell' = true := fun u hu => by have := refC_one hk9; rw [Array.all_eq_true_iff_forall_mem] at this; exact this u (by simpa using hu)
        refine jW [16] ?_
        refine jR 16 31 (.tmp 5) (.tmp 55) none (cs := (refC m9 (rwriteD rk A (entRec g q))).toList) (there_all h9.ba rfl) (hlen _ _) hone9 (hS9 _ hoth) ?_ jN
        simp only [j1, j2, j3, j4, j5]
        refine jW [17] ?_
        refine jS 17 (.assign (.tmp 56)) (some 14) (.int .i64 (rwriteA rk A)) (w9.setCells w.heap.size 0 (refC m9 (rwriteD rk A (entRec g q))).toList) (hS9 _ hoth) ?_ jN
        simp only [j1, j2, j3, j4, j5]
        refine wpAnyH_done (by kernel_rfl) ?_ _
        have hX : RB w (w9.setCells w.heap.size 0 (refC m9 (rwriteD rk A (entRec g q))).toList) m r m9 (rwriteD rk A (entRec g q)) := by
         have hsz : (w9.setCells w.heap.size 0 (refC m9 (rwriteD rk A (entRec g q))).toList).heap.size = w9.heap.size := (setCells_below (B := 0) (Nat.zero_le _) _ _ _).2
         have hsub : ∀ b ∈ rowsOf m9 (rwriteD rk A (entRec g q)), b ∈ rowsOf m r ∨ w.heap.size + 2 ≤ b := fun b hm => by
          rcases hr9 b hm with h | h
          ·exact HRS.out.sub b h
          ·have := (HRS.out.keep hBk9).bz.lt; exact .inr (by omega)
         refine ⟨Blk.setAll _ h9.ba rfl, (hoth _ (by omega)).trans h9.bz, hk9.offK hoth (by omega) (fun hm => ?_), h9.bw.trans (setCells_below (Nat.le_refl _) _ _ _).1, hsub⟩
         rcases hsub _ hm with h | h
         ·have := HK.out.bl _ h; omega
         ·omega
        have HXX := Lib.hid hX
        obtain ⟨wz, hwz⟩ : ∃ wz, wz = w9.setCells w.heap.size 0 (refC m9 (rwriteD rk A (entRec g q))).toList := ⟨_, rfl⟩
        rw [← hwz] at HXX ⊢
        clear hX hwz hS9 hoth h9 hone9 hB9 hk9 hb9 hr9 hH
        rcases Bool.eq_false_or_eq_true (rwriteA rk A == 0) with tz | tz
        ·have hz0 : rwriteA rk A = 0 := by simpa using tz
         have HV2 : Hid (rfillD r f z g l = rfillW (rwriteD rk A (entRec g q)) (f + 1 + ((k + 1 : Nat) : Int)) ((l.map (entRec g)).drop (k + 1))) := jz (by rw [HNX.out, if_pos hz0, HAn.out])
         rw [hz0]
         go_wp2_with fail
         exact ⟨⟨k + 1, by omega, by go_num, Lib.hid ⟨m9, _, HXX.out, HV2.out, by omega, by omega⟩⟩, by simp [intOf]; omega⟩
        ·have hz0 : rwriteA rk A ≠ 0 := by simpa using tz
         have HV2 : Hid (rfillD r f z g l = (rwriteD rk A (entRec g q), rwriteA rk A)) := jz (by rw [HNX.out, if_neg hz0])
         have hrz := HXX.out.ba.range
         have h19 := refC_one HXX.out.k
         have tz2 : (rwriteA rk A != 0) = true := by simpa using hz0
         go_wp2_with (first
          | (refine ld 31 _ rfl rfl rfl hrz Tryz.underlying31 rfl (hlen _ _) ?_)
          | (refine stBlk (cells := refC m9 (rwriteD rk A (entRec g q))) 31 (.tmp 10) (.tmp 59) rfl rfl rfl rfl HXX.out.bz refI rfl h19 ?_; intro w7 hB7 hb7 ho7 hs7; have HB7 := Lib.hid hB7; have HE7 := Lib.hid hb7; have HO7 := Lib.hid ho7; have HS7 := Lib.hid hs7; clear hB7 hb7 ho7 hs7))
         have hbw : Below w.heap.size w w7 := HXX.out.bw.trans (HE7.out.mono (by omega))
         have hr7 := HB7.out.range
         exact bodyPost_ret (results_cell1 rfl _ rfl hr7 Tryz.underlying31 rfl (hlen _ _)) rfl ⟨m9, by rw [HV2.out]; rfl, by rw [HV2.out]; exact HXX.out.k.offK HO7.out (by rw [HS7.out]; exact Nat.le_refl _) (HXX.out.notA HK.out).2, hbw, fun b hm => by
          rw [HV2.out] at hm
          rcases HXX.out.sub b hm with h | h
          ·exact .inl h
          ·exact .inr (by omega)⟩
     ·obtain rfl : k = l.length := by omega
      have HFIN : Hid (rfillD r f z g l = (rsyncD rk, rsyncA rk)) := jz (by rw [HVAL.out, List.drop_of_length_le (by simp)]; rfl)
      have hr2 := HRK.out.ba.range
      have HP := jz (ref_sync mk rk wr HRK.out.k (by omega))
      go_wp2_with (first
       | (refine ld 31 _ rfl rfl rfl hr2 Tryz.underlying31 rfl (hlen _ _) ?_)
       | (go_at_call 71; refine HP.out.mono ?_; rintro e w6 ⟨m6, rfl, hk6, hb6, hr6⟩)
       | (refine stBlk (cells := refC m6 (rsyncD rk)) 31 (.tmp 10) (.tmp 63) rfl rfl rfl rfl (HRK.out.bz.keep hb6) refI rfl (refC_one hk6) ?_; intro w7 hB7 hb7 ho7 hs7; have HB7 := Lib.hid hB7; have HE7 := Lib.hid hb7; have HO7 := Lib.hid ho7; have HS7 := Lib.hid hs7; clear hB7 hb7 ho7 hs7))
      have hbw : Below w.heap.size w w7 := (bstep HRK.out.bw hb6).trans (HE7.out.mono (by omega))
      have hr7 := HB7.out.range
      have hsub : ∀ b ∈ rowsOf m6 (rsyncD rk), b ∈ rowsOf m r ∨ w.heap.size + 2 ≤ b := fun b hm => by
       rcases hr6 b hm with h | h
       ·exact HRK.out.sub b h
       ·have := HRK.out.bz.lt; exact .inr (by omega)
      refine bodyPost_ret (results_cell1 rfl _ rfl hr7 Tryz.underlying31 rfl (hlen _ _)) rfl ⟨m6, by rw [HFIN.out]; rfl, by
       rw [HFIN.out]
       exact hk6.offK HO7.out (by rw [HS7.out]; exact Nat.le_refl _) (fun hm => by
        rcases hsub _ hm with h | h
        ·have := HK.out.bl _ h; omega
        ·omega), hbw, fun b hm => by
       rw [HFIN.out] at hm
       rcases hsub b hm with h | h
       ·exact .inl h
       ·exact .inr (by omega)⟩
end Go.Proofs.YtillkpjflcgkeaaGreat
