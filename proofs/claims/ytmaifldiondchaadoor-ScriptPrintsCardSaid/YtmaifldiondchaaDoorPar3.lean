/- script.parseLine, script.ParseLine. -/
import Derived.Test.YtmaifldiondchaaDoorScr3
import Derived.Test.YtmaifldiondchaaDoorArr
import Derived.Deep.Cut
import Derived.Deep.CutBlock
namespace Go.Proofs.YtmaifldiondchaaDoor
open Go.RowKit
set_option linter.unusedSimpArgs false

def opZ : Array Value := #[.int .i64 0, .int .i64 0, .slice none 0 0, .slice none 0 0]
/-- The value of an operation. -/
def OpV (w : World) (v : Value) (o : OpD) : Prop := ∃ A ca B cb, v = .agg #[.int .i64 o.kind, .int .i64 o.n, .slice A o.data.length ca, .slice B o.cuts.length cb] ∧ Sn w 1 (.slice A o.data.length ca) o.data.length (Lib.byteCells o.data) ∧ Sn w 1 (.slice B o.cuts.length cb) o.cuts.length (intC o.cuts)
theorem OpV.below {w w' : World} {v : Value} {o : OpD} (h : OpV w v o) (hb : Below w.heap.size w w') : OpV w' v o := by
  obtain ⟨A, ca, B, cb, h1, h2, h3⟩ := h
  exact ⟨A, ca, B, cb, h1, h2.below hb, h3.below hb⟩
theorem Sn.nil1 (w : World) (c : Nat) : Sn w 1 (.slice none 0 c) 0 [] := ⟨none, c, rfl, Nat.zero_le _, rfl, fun h => by cases h⟩
/-- .. its data and its cuts lie in new memory. -/
def OpN (w : World) (base : Nat) (v : Value) (o : OpD) : Prop := ∃ A ca B cb, v = .agg #[.int .i64 o.kind, .int .i64 o.n, .slice A o.data.length ca, .slice B o.cuts.length cb] ∧ Sn w 1 (.slice A o.data.length ca) o.data.length (Lib.byteCells o.data) ∧ Sn w 1 (.slice B o.cuts.length cb) o.cuts.length (intC o.cuts) ∧ (∀ b off, A = some ⟨b, off, none⟩ → base ≤ b ∧ b < w.heap.size) ∧ (∀ b off, B = some ⟨b, off, none⟩ → base ≤ b ∧ b < w.heap.size)
theorem OpN.v {w : World} {base : Nat} {v : Value} {o : OpD} (h : OpN w base v o) : OpV w v o := by
  obtain ⟨A, ca, B, cb, h1, h2, h3, _⟩ := h
  exact ⟨A, ca, B, cb, h1, h2, h3⟩
theorem OpN.below {w w' : World} {base : Nat} {v : Value} {o : OpD} (h : OpN w base v o) (hb : Below w.heap.size w w') : OpN w' base v o := by
  obtain ⟨A, ca, B, cb, h1, h2, h3, h4, h5⟩ := h
  have hs := hb.size
  exact ⟨A, ca, B, cb, h1, h2.below hb, h3.below hb, fun b off e => by have := h4 b off e; omega, fun b off e => by have := h5 b off e; omega⟩
theorem OpN.mono {w : World} {base base' : Nat} {v : Value} {o : OpD} (h : OpN w base v o) (hb : base' ≤ base) : OpN w base' v o := by
  obtain ⟨A, ca, B, cb, h1, h2, h3, h4, h5⟩ := h
  exact ⟨A, ca, B, cb, h1, h2, h3, fun b off e => by have := h4 b off e; omega, fun b off e => by have := h5 b off e; omega⟩
theorem OpV.zero (w : World) : OpV w (.agg opZ) op0 := ⟨none, 0, none, 0, rfl, Sn.nil1 w 0, Sn.nil1 w 0⟩
theorem opRow_one (k n : Int) (A : Option Addr) (l ca : Nat) (B : Option Addr) (m cb : Nat) : (#[.int .i64 k, .int .i64 n, .slice A l ca, .slice B m cb] : Array Value).all (·.oneCell') = true := by
  simp [Value.oneCell']
theorem own_far {w : World} {base e s n : Nat} {v : Value} {xs : List Value} (h : w.ownsRow base e s v n xs) {g : Nat} (hg : g < base) (i : Nat) (u : Value) : (w.setCell ⟨g, i, none⟩ u).ownsRow base e s v n xs := by
  refine ⟨h.1, ?_⟩
  rcases h.2 with h' | ⟨q, cap, cur, h1, h2, h3, h4⟩
  · exact .inl h'
  · exact .inr ⟨q, cap, cur, h1, h2, (Below.heap_setCell w ⟨g, i, none⟩ u q (by simp; omega)).trans h3, h4⟩
theorem own_sn {w : World} {base e s n : Nat} {v : Value} {xs : List Value} (h : w.ownsRow base e s v n xs) : ∃ A cap, v = .slice A n cap ∧ Sn w s (.slice A n cap) n xs ∧ ∀ b off, A = some ⟨b, off, none⟩ → base ≤ b ∧ b < w.heap.size := by
  have hs := Sn.own h
  obtain ⟨A, cap, rfl, _⟩ := id hs
  exact ⟨A, cap, rfl, hs, fun b off e => h.lt b (by rw [e]; rfl)⟩
theorem Sn.other {w w' : World} {s n cap : Nat} {A : Option Addr} {xs : List Value} (h : Sn w s (.slice A n cap) n xs) {g : Nat} (hA : ∀ b off, A = some ⟨b, off, none⟩ → g < b) (hw : ∀ g', g' ≠ g → w'.heap[g']? = w.heap[g']?) : Sn w' s (.slice A n cap) n xs := by
  obtain ⟨A', cap', hv, h1, h2, hx⟩ := h
  injection hv with e1 _ e3
  subst e1 e3
  refine ⟨_, _, rfl, h1, h2, fun hp => ?_⟩
  obtain ⟨b, off, e, hc⟩ := hx hp
  exact ⟨b, off, e, fun j u hj => (World.cell?_of_block (hw b (Nat.ne_of_gt (hA b off e)))).trans (hc j u hj)⟩
theorem dataR_len (r : Bs) : (dataR r).1.length ≤ 262144 := by
  unfold dataR
  split
  · simp
  · cases h : hexB r with
    | none => simp
    | some d => have := hexB_len _ r d (Nat.le_refl _) h; show d.length ≤ _; omega
theorem crashR_len (r : Bs) : (crashR r).1.2.length ≤ 20 := by
  unfold crashR
  split
  · simp
  · rename_i n _
    rcases runC_spec (split 32 r).tail [] (by simp) with ⟨cs, _, _, h3, h4⟩ | ⟨h1, _⟩
    · rw [h4]; simpa using h3
    · rw [h1]; simp
theorem OpN.zero (w : World) (base : Nat) : OpN w base (.agg opZ) op0 := ⟨none, 0, none, 0, rfl, Sn.nil1 w 0, Sn.nil1 w 0, (fun _ _ h => by cases h), fun _ _ h => by cases h⟩
structure PS (w : World) (g11 : Nat) (k : Int) (mb : Bool) (r : Bs) (b : Bool) (n : Int) (d : Bs) (c : List Int) (A : Option Addr) (ca : Nat) (B : Option Addr) (cb : Nat) (wx : World) : Prop where
  b11 : Blk wx g11 26 #[.int .i64 k, .int .i64 n, .slice A d.length ca, .slice B c.length cb]
  b4 : Blk wx w.heap.size 26 opZ
  data : Sn wx 1 (.slice A d.length ca) d.length (Lib.byteCells d)
  cuts : Sn wx 1 (.slice B c.length cb) c.length (intC c)
  bel : Below w.heap.size w wx
  res : opS k mb r = if b then some ⟨k, n, d, c⟩ else none
  gle : w.heap.size + 1 ≤ g11
  nA : ∀ b off, A = some ⟨b, off, none⟩ → w.heap.size < b ∧ b < wx.heap.size
  nB : ∀ b off, B = some ⟨b, off, none⟩ → w.heap.size < b ∧ b < wx.heap.size
  dl : d.length ≤ 1000000000
  cl : c.length ≤ 1000000000

set_option maxRecDepth 100000 in
set_option maxHeartbeats 8000000 in
theorem parseLine_any (s : Bs) (b : Nat) (w : World) (hml : ML w) (hs : s.length ≤ 100000000) (hmap : SM w b 6 (kmap 6)) :
    Calls Tryd.prog 23 #[.string (SB s), .map (some b)] w fun e w' => ∃ v, e = .returned (.tuple #[v, .bool (parseL s).isSome]) ∧ OpN w' w.heap.size v ((parseL s).getD op0) ∧ Below w.heap.size w w' := by
  have HML := Lib.hid hml
  have HMAP := Lib.hid hmap
  obtain ⟨x, r, mb, hcut, hhd, htl, hxl, hrl, hrm, _⟩ := cut_res s hs
  have hr0 : mb = false → r = [] := fun h => by
    rcases cut_ways 32 s with ⟨_, _, h3⟩ | ⟨p, q, _, _, h3⟩
    · rw [h3] at hcut; exact (Prod.mk.inj (Prod.mk.inj hcut).2).1.symm
    · rw [h3] at hcut
      have := (Prod.mk.inj (Prod.mk.inj hcut).2).2
      rw [h] at this; cases this
  have HP := Lib.hid (parseL_opS s x r mb hhd htl hr0)
  have HCALL : Hid (∀ w1, Below w.heap.size w w1 → Calls Tryd.prog 44 #[.string (SB s), .string ⟨#[32]⟩] w1 fun e w' => e = .returned (.tuple #[.string (SB x), .string (SB r), .bool mb]) ∧ ∃ n, w' = w1.drewN n) := Lib.hid (fun w1 hb => by
    have h := cut_call 32 s w1 (HML.out.below hb) hs
    rw [hcut] at h
    exact h)
  have HLK : Hid (∀ w1, Below w.heap.size w w1 → (Instr.lookup 48 (.map (some b)) (.string (SB x)) true).run Tryd.prog w1 = .ok (.tuple #[(kmap 6 x).getD (.int .i64 0), .bool (kmap 6 x).isSome]) w1) := Lib.hid (fun w1 hb => (HMAP.out.keep hb).look Tryd.underlying48 (by kernel_rfl) (by unfold SOk maxLen; omega))
  have HRL : Hid (r.length ≤ 100000000) := Lib.hid (by omega)
  clear hml hmap hcut hhd htl hxl hrl hrm hr0
  have hk := kindOf_range x
  obtain ⟨k, hkd⟩ : ∃ k, k = kindOf x := ⟨_, rfl⟩
  have hkm : kmap 6 x = if k = 0 then none else some (.int .i64 k) := by
    unfold kmap
    rw [← hkd] at hk ⊢
    by_cases h : k = 0
    · rw [if_pos h, if_neg (by omega)]
    · rw [if_neg h, if_pos (by omega)]
  rw [← hkd] at hk HP
  rw [hkm] at HLK
  clear hkd hkm
  have hz : ∀ w, (zeroValue 26).run Tryd.prog w = .ok (.agg opZ) w := fun w => by kernel_rfl
  by_cases hk0 : k = 0
  · subst hk0
    have HF : Hid (parseL s = none) := Lib.hid HP.out
    rw [if_pos rfl] at HLK
    clear HP
    go_enter Tryd.func23, Tryd.ntmps23
    go_wp2_with (first
      | (go_at_call 44; refine (HCALL.out _ (bel1 _ _)).mono ?_; rintro e w' ⟨rfl, dn, hw'⟩; have hbw : Below w.heap.size w w' := (by rw [hw']; exact bdrewN (bel1 _ _) _); have hlk := HLK.out _ hbw; have HB4 : Hid (Blk w' w.heap.size 26 opZ) := Lib.hid (by rw [hw']; exact (Blk.new _ _ _).drewN _); have HBW := Lib.hid hbw; clear hw' hbw)
      | (refine stBlk 26 (.tmp 4) (.tmp 26) rfl rfl (by rfl) (by rfl) HB4.out (by kernel_rfl) rfl (opRow_one _ _ _ _ _ _ _ _) ?_; intro w2 h2 h3 _ _; have HB2 := Lib.hid h2; have HBE := Lib.hid (HBW.out.trans h3); clear h2 h3))
    exact bodyPost_ret (results_cellR_tmp rfl _ rfl HB2.out.range Tryd.underlying26 rfl (by kernel_rfl)) rfl ⟨_, by rw [HF.out]; rfl, by rw [HF.out]; exact OpN.zero _ _, HBE.out⟩
  · rw [if_neg hk0] at HLK
    have hk1 : 1 ≤ k := by omega
    go_enter Tryd.func23, Tryd.ntmps23
    go_upto_block 0 with (first
      | (go_at_call 44; refine (HCALL.out _ (bel1 _ _)).mono ?_; rintro e w' ⟨rfl, dn, hw'⟩; have hbw : Below w.heap.size w w' := (by rw [hw']; exact bdrewN (bel1 _ _) _); have hlk := HLK.out _ hbw; have HB4 : Hid (Blk w' w.heap.size 26 opZ) := Lib.hid (by rw [hw']; exact (Blk.new _ _ _).drewN _); have HBW := Lib.hid hbw; have HSW : Hid (w'.heap.size = w.heap.size + 1) := Lib.hid (by rw [hw']; simp); clear hw' hbw)
      | (refine stNew (cells := #[.int .i64 k, .int .i64 0, .slice none 0 0, .slice none 0 0]) 26 (.tmp 11) (.tmp 28) rfl rfl (by rfl) (by rfl) (by kernel_rfl) rfl (opRow_one _ _ _ _ _ _ _ _) ?_; intro w2 h2 h3 _; have H2 : Hid (Blk w2 w'.heap.size 26 #[.int .i64 k, .int .i64 0, .slice none 0 0, .slice none 0 0]) := Lib.hid h2; have HB2 := Lib.hid (bstep HBW.out h3); have HB42 := Lib.hid (HB4.out.keep h3); have hsz2 : w'.heap.size + 1 ≤ w2.heap.size := H2.out.lt; clear h2 h3))
    obtain ⟨g, hg⟩ : ∃ g, g = w'.heap.size := ⟨_, rfl⟩
    rw [← hg] at H2 HSW hsz2
    rw [← hg]
    have HG : Hid (w.heap.size + 1 ≤ g) := Lib.hid (by have := HSW.out; omega)
    clear hg HSW
    go_cut [10] from 30 to 71 (fun okv wx => ∃ (bb : Bool) (n : Int) (d : Bs) (c : List Int) (A : Option Addr) (ca : Nat) (B : Option Addr) (cb : Nat), okv = .bool bb ∧ Hid (PS w g k mb r bb n d c A ca B cb wx))
    case first => as_aux_lemma =>
      have hkk : k = 1 ∨ k = 2 ∨ k = 3 ∨ k = 4 ∨ k = 5 ∨ k = 6 := by omega
      rcases hkk with e | e | e | e | e | e
      · obtain rfl : k = 1 := by omega
        have hc1 := H2.out.cell 1
        have hf1 := H2.out.frozen 1
        simp only [List.getElem?_toArray, List.getElem?_cons_zero, List.getElem?_cons_succ] at hc1
        have HNUM := Lib.hid (parseNumber_any r w2 (by have := HRL.out; omega))
        go_wp2_with (go_at_call 46; refine HNUM.out.mono ?_; rintro e w3 ⟨rfl, hw3⟩; rw [hw3]; clear hw3)
        go_meet
        exact ⟨(numR r).2, (numR r).1, [], [], none, 0, none, 0, rfl, Lib.hid ⟨H2.out.set_ 1 _, HB42.out.far (by have := HG.out; simp; omega) _, Sn.nil1 _ _, Sn.nil1 _ _, HB2.out.setCell (p := ⟨g, 1, none⟩) (by have := HG.out; simp; omega) _, rfl, HG.out, (fun _ _ h => by cases h), (fun _ _ h => by cases h), by simp, by simp⟩⟩
      · obtain rfl : k = 2 := by omega
        cases mb with
        | false =>
          go_wp2_with fail
          go_meet
          exact ⟨true, 0, [], [], none, 0, none, 0, rfl, Lib.hid ⟨H2.out, HB42.out, Sn.nil1 _ _, Sn.nil1 _ _, HB2.out, rfl, HG.out, (fun _ _ h => by cases h), (fun _ _ h => by cases h), by simp, by simp⟩⟩
        | true =>
          go_wp2_with fail
          go_meet
          exact ⟨false, 0, [], [], none, 0, none, 0, rfl, Lib.hid ⟨H2.out, HB42.out, Sn.nil1 _ _, Sn.nil1 _ _, HB2.out, rfl, HG.out, (fun _ _ h => by cases h), (fun _ _ h => by cases h), by simp, by simp⟩⟩
      · obtain rfl : k = 3 := by omega
        cases mb with
        | false =>
          go_wp2_with fail
          go_meet
          exact ⟨true, 0, [], [], none, 0, none, 0, rfl, Lib.hid ⟨H2.out, HB42.out, Sn.nil1 _ _, Sn.nil1 _ _, HB2.out, rfl, HG.out, (fun _ _ h => by cases h), (fun _ _ h => by cases h), by simp, by simp⟩⟩
        | true =>
          have HDAT := Lib.hid (parseData_any r w2 HRL.out)
          have HFIN : Hid (∀ (v : Value) (w3 : World), OwnB w3 w2.heap.size v (dataR r).1 → Below w2.heap.size w2 w3 → ∃ A ca, v = .slice A (dataR r).1.length ca ∧ PS w g 3 true r (dataR r).2 0 (dataR r).1 [] A ca none 0 (w3.setCell ⟨g, 2, none⟩ v)) := Lib.hid (fun v w3 h1 h2 => by
            obtain ⟨A, ca, rfl, hs, hA⟩ := own_sn h1
            have hg2 : g < w2.heap.size := by omega
            refine ⟨A, ca, rfl, ⟨(H2.out.keep h2).set_ 2 _, (HB42.out.keep h2).far (by have := HG.out; simp; omega) _, Sn.own (own_far h1 hg2 2 _), Sn.nil1 _ _, (bstep HB2.out h2).setCell (p := ⟨g, 2, none⟩) (by have := HG.out; simp; omega) _, rfl, HG.out, (fun b off e => by have := hA b off e; have := HG.out; simp; omega), (fun _ _ h => by cases h), by have := dataR_len r; omega, by simp⟩⟩)
          go_wp2_with (go_at_call 45; refine HDAT.out.mono ?_; rintro e w3 ⟨v3, rfl, hown, hb3⟩; have hc2 := (H2.out.keep hb3).cell 2; have hf2 := (H2.out.keep hb3).frozen 2; simp only [List.getElem?_toArray, List.getElem?_cons_zero, List.getElem?_cons_succ] at hc2; obtain ⟨A3, ca3, e3, hps⟩ := HFIN.out v3 w3 hown hb3; subst e3; have HPS := Lib.hid hps; clear hps hown)
          go_meet
          exact ⟨(dataR r).2, 0, (dataR r).1, [], A3, ca3, none, 0, rfl, HPS⟩
      · obtain rfl : k = 4 := by omega
        cases mb with
        | false =>
          go_wp2_with fail
          go_meet
          exact ⟨true, 0, [], [], none, 0, none, 0, rfl, Lib.hid ⟨H2.out, HB42.out, Sn.nil1 _ _, Sn.nil1 _ _, HB2.out, rfl, HG.out, (fun _ _ h => by cases h), (fun _ _ h => by cases h), by simp, by simp⟩⟩
        | true =>
          go_wp2_with fail
          go_meet
          exact ⟨false, 0, [], [], none, 0, none, 0, rfl, Lib.hid ⟨H2.out, HB42.out, Sn.nil1 _ _, Sn.nil1 _ _, HB2.out, rfl, HG.out, (fun _ _ h => by cases h), (fun _ _ h => by cases h), by simp, by simp⟩⟩
      · obtain rfl : k = 5 := by omega
        have hc1 := H2.out.cell 1
        have hf1 := H2.out.frozen 1
        simp only [List.getElem?_toArray, List.getElem?_cons_zero, List.getElem?_cons_succ] at hc1
        have HNUM := Lib.hid (parseNumber_any r w2 (by have := HRL.out; omega))
        go_wp2_with (go_at_call 46; refine HNUM.out.mono ?_; rintro e w3 ⟨rfl, hw3⟩; rw [hw3]; clear hw3)
        go_meet
        exact ⟨(numR r).2, (numR r).1, [], [], none, 0, none, 0, rfl, Lib.hid ⟨H2.out.set_ 1 _, HB42.out.far (by have := HG.out; simp; omega) _, Sn.nil1 _ _, Sn.nil1 _ _, HB2.out.setCell (p := ⟨g, 1, none⟩) (by have := HG.out; simp; omega) _, rfl, HG.out, (fun _ _ h => by cases h), (fun _ _ h => by cases h), by simp, by simp⟩⟩
      · obtain rfl : k = 6 := by omega
        have HCR := Lib.hid (parseCrash_any r w2 (HML.out.below HB2.out) HRL.out)
        have HFIN : Hid (∀ (v : Value) (w3 : World), OwnI w3 w2.heap.size v (crashR r).1.2 → Below w2.heap.size w2 w3 → ∃ A ca, v = .slice A (crashR r).1.2.length ca ∧ PS w g 6 mb r (crashR r).2 (crashR r).1.1 [] (crashR r).1.2 none 0 A ca ((w3.setCell ⟨g, 1, none⟩ (.int .i64 (crashR r).1.1)).setCell ⟨g, 3, none⟩ v)) := Lib.hid (fun v w3 h1 h2 => by
          obtain ⟨A, ca, rfl, hs, hA⟩ := own_sn h1
          have hg2 : g < w2.heap.size := by omega
          refine ⟨A, ca, rfl, ⟨((H2.out.keep h2).set_ 1 _).set_ 3 _, ((HB42.out.keep h2).far (by have := HG.out; simp; omega) _).far (by have := HG.out; simp; omega) _, Sn.nil1 _ _, Sn.own (own_far (own_far h1 hg2 1 _) hg2 3 _), ((bstep HB2.out h2).setCell (p := ⟨g, 1, none⟩) (by have := HG.out; simp; omega) _).setCell (p := ⟨g, 3, none⟩) (by have := HG.out; simp; omega) _, rfl, HG.out, (fun _ _ h => by cases h), (fun b off e => by have := hA b off e; have := HG.out; simp; omega), by simp, by have := crashR_len r; omega⟩⟩)
        go_wp2_with (go_at_call 47; refine HCR.out.mono ?_; rintro e w3 ⟨v3, rfl, hown, hb3⟩; have hc1 := (H2.out.keep hb3).cell 1; have hf1 := (H2.out.keep hb3).frozen 1; have hc3 := ((H2.out.keep hb3).set_ 1 (.int .i64 (crashR r).1.1)).cell 3; have hf3 := ((H2.out.keep hb3).set_ 1 (.int .i64 (crashR r).1.1)).frozen 3; simp only [List.getElem?_toArray, List.getElem?_cons_zero, List.getElem?_cons_succ, List.setIfInBounds_toArray, List.set_cons_succ, List.set_cons_zero] at hc1 hc3; obtain ⟨A3, ca3, e3, hps⟩ := HFIN.out v3 w3 hown hb3; subst e3; have HPS := Lib.hid hps; clear hps hown)
        go_meet
        exact ⟨(crashR r).2, (crashR r).1.1, [], (crashR r).1.2, none, 0, A3, ca3, rfl, HPS⟩
    case rest =>
    obtain ⟨bb, n, d, c, A, ca, B, cb, rfl, HPS⟩ := hcut
    have HR : Hid (parseL s = right? (if bb then some ⟨k, n, d, c⟩ else none)) := Lib.hid (by rw [HP.out, HPS.out.res])
    clear HB2 HB42 H2 HB4 HBW HLK HCALL hlk
    cases bb with
    | false =>
      have HF : Hid (parseL s = none) := Lib.hid HR.out
      have HB4E := Lib.hid HPS.out.b4
      go_wp2_with (first
        | (refine stBlk 26 (.tmp 4) (.tmp 70) rfl rfl (by rfl) (by rfl) HB4E.out (by kernel_rfl) rfl (opRow_one _ _ _ _ _ _ _ _) ?_; intro wE hE1 hE2 _ _; have HE1 := Lib.hid hE1; have HE2 := Lib.hid hE2; clear hE1 hE2))
      exact bodyPost_ret (results_cellR_tmp rfl _ rfl HE1.out.range Tryd.underlying26 rfl (by kernel_rfl)) rfl ⟨_, by rw [HF.out]; rfl, by rw [HF.out]; exact OpN.zero _ _, HPS.out.bel.trans HE2.out⟩
    | true =>
      have hrg : wc.rangeAt g 0 [.int .i64 k, .int .i64 n, .slice A d.length ca, .slice B c.length cb] := HPS.out.b11.range
      have HRG := Lib.hid hrg
      have HRT := Lib.hid (right_any k n d c A B ca cb wc HPS.out.cuts (by have := HPS.out.cl; omega) (by have := HPS.out.dl; omega))
      clear hrg
      rcases Bool.eq_false_or_eq_true (rightB ⟨k, n, d, c⟩) with hr | hr
      · rw [hr] at HRT
        have HF : Hid (parseL s = some ⟨k, n, d, c⟩) := Lib.hid (by rw [HR.out]; show (if rightB _ then _ else none) = _; rw [hr]; rfl)
        clear hr HR
        go_wp2_with (first
          | (refine ld 26 (.tmp 11) rfl rfl (by rfl) HRG.out Tryd.underlying26 rfl (by kernel_rfl) ?_)
          | (go_at_call 18; refine HRT.out.mono ?_; rintro e w5 ⟨rfl, hb5⟩; have HB5 := Lib.hid hb5; have HB4E := Lib.hid (HPS.out.b4.keep hb5); have HRG2 : Hid (w5.rangeAt g 0 [.int .i64 k, .int .i64 n, .slice A d.length ca, .slice B c.length cb]) := Lib.hid (HPS.out.b11.keep hb5).range; clear hb5)
          | (refine ld 26 (.tmp 11) rfl rfl (by rfl) HRG2.out Tryd.underlying26 rfl (by kernel_rfl) ?_)
          | (refine stBlk (cells := #[.int .i64 k, .int .i64 n, .slice A d.length ca, .slice B c.length cb]) 26 (.tmp 4) (.tmp 71) rfl rfl (by rfl) (by rfl) HB4E.out (by kernel_rfl) rfl (opRow_one _ _ _ _ _ _ _ _) ?_; intro wE hE1 hE2 hE3 _; have HE1 := Lib.hid hE1; have HE2 := Lib.hid hE2; have HE3 := Lib.hid hE3; clear hE1 hE2 hE3))
        have HBE := Lib.hid ((bstep HPS.out.bel HB5.out).trans HE2.out)
        have HOV : Hid (OpN wE w.heap.size (.agg #[.int .i64 k, .int .i64 n, .slice A d.length ca, .slice B c.length cb]) ⟨k, n, d, c⟩) := Lib.hid ⟨A, ca, B, cb, rfl, (HPS.out.data.below HB5.out).other (fun b off e => (HPS.out.nA b off e).1) HE3.out, (HPS.out.cuts.below HB5.out).other (fun b off e => (HPS.out.nB b off e).1) HE3.out, (fun b off e => by have h1 := HPS.out.nA b off e; have h2 := HB5.out.size; have h3 := HE2.out.size; omega), fun b off e => by have h1 := HPS.out.nB b off e; have h2 := HB5.out.size; have h3 := HE2.out.size; omega⟩
        exact bodyPost_ret (results_cellR_tmp rfl _ rfl HE1.out.range Tryd.underlying26 rfl (by kernel_rfl)) rfl ⟨_, by rw [HF.out]; rfl, by rw [HF.out]; exact HOV.out, HBE.out⟩
      · rw [hr] at HRT
        have HF : Hid (parseL s = none) := Lib.hid (by rw [HR.out]; show (if rightB _ then _ else none) = _; rw [hr]; rfl)
        clear hr HR
        go_wp2_with (first
          | (refine ld 26 (.tmp 11) rfl rfl (by rfl) HRG.out Tryd.underlying26 rfl (by kernel_rfl) ?_)
          | (go_at_call 18; refine HRT.out.mono ?_; rintro e w5 ⟨rfl, hb5⟩; have HB5 := Lib.hid hb5; have HB4E := Lib.hid (HPS.out.b4.keep hb5); clear hb5)
          | (refine stBlk 26 (.tmp 4) (.tmp 70) rfl rfl (by rfl) (by rfl) HB4E.out (by kernel_rfl) rfl (opRow_one _ _ _ _ _ _ _ _) ?_; intro wE hE1 hE2 _ _; have HE1 := Lib.hid hE1; have HE2 := Lib.hid hE2; clear hE1 hE2))
        exact bodyPost_ret (results_cellR_tmp rfl _ rfl HE1.out.range Tryd.underlying26 rfl (by kernel_rfl)) rfl ⟨_, by rw [HF.out]; rfl, by rw [HF.out]; exact OpN.zero _ _, (bstep HPS.out.bel HB5.out).trans HE2.out⟩

set_option maxRecDepth 100000 in
theorem ParseLine_any (s : Bs) (w : World) (hml : ML w) (hs : s.length ≤ 100000000) :
    Calls Tryd.prog 9 #[.string (SB s)] w fun e w' => ∃ v, e = .returned (.tuple #[v, .bool (parseL s).isSome]) ∧ OpN w' w.heap.size v ((parseL s).getD op0) ∧ Below w.heap.size w w' := by
  have HML := Lib.hid hml
  clear hml
  go_enter Tryd.func9, Tryd.ntmps9
  go_wp2_with (first
    | (go_at_call 24; refine (kinds_any _).mono ?_; rintro e w1 ⟨b, rfl, hm, hb1⟩; have HM := Lib.hid hm; have HB1 := Lib.hid (bstep (bel1 _ _) hb1); have HB4 := Lib.hid ((Blk.new _ _ _).keep hb1); have hs1 := hb1.size; simp only [World.size_alloc] at hs1; clear hm hb1)
    | (go_at_call 23; refine (parseLine_any s b w1 (HML.out.below HB1.out) hs HM.out).mono ?_; rintro e w2 ⟨v, rfl, hv, hb2⟩; obtain ⟨A, ca, B, cb, e1, h2, h3, h4, h5⟩ := hv; subst e1; have H2 := Lib.hid h2; have H3 := Lib.hid h3; have H4 := Lib.hid h4; have H5 := Lib.hid h5; have HB2 := Lib.hid (bstep HB1.out hb2); have HB42 := Lib.hid (HB4.out.keep hb2); clear h2 h3 h4 h5 hb2)
    | (refine stBlk (cells := #[.int .i64 ((parseL s).getD op0).kind, .int .i64 ((parseL s).getD op0).n, .slice A ((parseL s).getD op0).data.length ca, .slice B ((parseL s).getD op0).cuts.length cb]) 26 (.tmp 2) (.tmp 7) rfl rfl (by rfl) (by rfl) HB42.out (by kernel_rfl) rfl (opRow_one _ _ _ _ _ _ _ _) ?_; intro wE hE1 hE2 hE3 _; have HE1 := Lib.hid hE1; have HE2 := Lib.hid hE2; have HE3 := Lib.hid hE3; clear hE1 hE2 hE3))
  exact bodyPost_ret (results_cellR_tmp rfl _ rfl HE1.out.range Tryd.underlying26 rfl (by kernel_rfl)) rfl ⟨_, rfl, ⟨A, ca, B, cb, rfl, H2.out.other (fun b off e => Nat.lt_of_lt_of_le hs1 (H4.out b off e).1) HE3.out, H3.out.other (fun b off e => Nat.lt_of_lt_of_le hs1 (H5.out b off e).1) HE3.out, (fun b off e => by have h1 := H4.out b off e; have h2 := HE2.out.size; omega), fun b off e => by have h1 := H5.out b off e; have h2 := HE2.out.size; omega⟩, HB2.out.trans HE2.out⟩
end Go.Proofs.YtmaifldiondchaaDoor
