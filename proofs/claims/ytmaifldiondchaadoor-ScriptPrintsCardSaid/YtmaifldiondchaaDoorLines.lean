/- script.lines: the lines of a text, as an iterator that keeps what is left of the text in a box of its own. -/
import Derived.Test.YtmaifldiondchaaDoorPar3
import Derived.Test.YtmaifldiondchaaDoorSeqZ
namespace Go.Proofs.YtmaifldiondchaaDoor
open Go.RowKit
attribute [local irreducible] wpQuiet wpAnyH
attribute [local go_sem] Oper.semAt_some
set_option linter.unusedSimpArgs false

theorem Lies.off {T : Terr} {g : Nat} {W W' : World} (h : Off g W W') (hg : ¬ T g) : Lies T W W' := ⟨h.os, h.tape, h.output, h.size, fun k hk ht => h.block k hk fun e => hg (e ▸ ht)⟩
theorem Turn.blk {T T' : Terr} {W W' : World} (h : Turn T W T' W') {g : Nat} {t : TypeId} {cs : Array Value} (hB : Blk W g t cs) (hg : ¬ T g) : Blk W' g t cs := (h.block g hB.lt hg).trans hB
theorem Lies.blk {T : Terr} {W W' : World} (h : Lies T W W') {g : Nat} {t : TypeId} {cs : Array Value} (hB : Blk W g t cs) (hg : T g) : Blk W' g t cs := (h.block g hB.lt hg).trans hB
/-- The lines of the words between line feeds; the last has none. -/
def linesW : List Bs → List (Bs × Bool)
  | [] => []
  | [w] => if w.isEmpty then [] else [(w, false)]
  | w :: x :: ws => (w, true) :: linesW (x :: ws)
def linesL (s : Bs) : List (Bs × Bool) := linesW (split 10 s)
theorem linesL_nil : linesL [] = [] := rfl
theorem linesL_app (w r : Bs) (h : (10 : UInt8) ∉ w) : linesL (w ++ 10 :: r) = (w, true) :: linesL r := by
  unfold linesL
  rw [split_app 10 w r h]
  obtain ⟨a, b, e⟩ := split_form 10 r
  rw [e]; rfl
theorem linesL_last (w : Bs) (h : (10 : UInt8) ∉ w) (hn : w ≠ []) : linesL w = [(w, false)] := by
  unfold linesL
  rw [split_word 10 w h]
  cases w with
  | nil => exact absurd rfl hn
  | cons _ _ => rfl
/-- The next line, and what is left. -/
theorem line_step (r : Bs) (hn : r ≠ []) (hs : r.length ≤ 100000000) : ∃ (x q : Bs) (mb : Bool), Lib.cut r [10] = (x, q, mb) ∧ linesL r = (x, mb) :: linesL q ∧ q.length < r.length ∧ x.length ≤ r.length ∧ (hs = hs) := by
  by_cases h : (10 : UInt8) ∈ r
  · obtain ⟨w, q, rfl, hw⟩ := first_occ 10 r h
    exact ⟨w, q, true, cut_app 10 w q hw, linesL_app w q hw, by simp; omega, by simp, rfl⟩
  · refine ⟨r, [], false, cut_word 10 r h, linesL_last r h hn, ?_, Nat.le_refl _, rfl⟩
    cases r with
    | nil => exact absurd rfl hn
    | cons _ _ => simp
def encL (x : Bs × Bool) : Array Value := #[.string (SB x.1), .bool x.2]
def XL (g1 : Nat) : Terr := fun k => k = g1 ∨ k = 0
def leftOf (g1 : Nat) (wr : World) : Nat := lenV ((wr.cell? ⟨g1, 0, none⟩).getD .nilIface)
/-- What the iterator keeps between two rounds. -/
structure LIt (g1 : Nat) (r : Bs) (T : Terr) (wr : World) : Prop where
  box : Blk wr g1 9 #[.string (SB r)]
  ml : ML wr
  nT : ¬ T g1 ∧ ¬ T 0
  len : r.length ≤ 100000000
theorem ML.same {w w' : World} (h : ML w) (hb : w'.heap[0]? = w.heap[0]?) : ML w' := by
  obtain ⟨m, hm⟩ := h
  exact ⟨m, (World.cell?_of_block hb).trans hm⟩
theorem ML.lt {w : World} (h : ML w) : 0 < w.heap.size := by
  obtain ⟨m, hm⟩ := h
  exact cell_lt hm

set_option maxRecDepth 100000 in
set_option maxHeartbeats 4000000 in
theorem lines_seq (s : Bs) (g1 : Nat) (w : World) (h1 : Blk w g1 9 #[.string (SB s)]) (hml : ML w) (hs : s.length ≤ 100000000) (hg : g1 ≠ 0) :
    SeqZ Fence.wide 9 Tryd.prog 50 #[.pointer (some ⟨g1, 0, none⟩)] encL (XL g1) (fun k => k = g1) (linesL s) w := by
  intro ly J Jx T0 W hW hly1 hly2 hJ hJx hJT hY hT0 h0
  have HI0 : Hid (LIt g1 s T0 W) := Lib.hid ⟨h1.keep hW, hml.below hW, ⟨fun h => hT0 _ h (.inl rfl), fun h => hT0 _ h (.inr rfl)⟩, hs⟩
  have hg1w : g1 < w.heap.size := h1.lt
  have hmlw := hml.lt
  have HNE := Lib.hid (show g1 ≠ ly ∧ 0 ≠ ly ∧ g1 ≠ 0 by refine ⟨by omega, by omega, hg⟩)
  have HJ0 := Lib.hid h0
  clear h1 hml hT0 h0 hg
  refine callsIn_of_wp Tryd.func50 rfl trivial ?_ rfl
  simp only [Tryd.ntmps50, List.size_toArray, List.length_cons, List.length_nil, Nat.reduceAdd, Nat.reduceSub, Array.replicate_succ, Array.replicate_zero, List.push_toArray, List.append_toArray, List.nil_append, List.cons_append]
  refine wpIn_wide.2 ?_
  go_wp2_with fail
  go_loopw [3] (fun _ wr => ∃ (pre : List (Bs × Bool)) (T : Terr) (r : Bs), Hid (J pre T wr) ∧ Hid (LIt g1 r T wr) ∧ Hid (linesL s = pre ++ linesL r)) (fun _ wr => leftOf g1 wr)
  case atStart => exact ⟨[], T0, s, HJ0, HI0, Lib.hid rfl⟩
  case round =>
    clear HJ0 HI0
    obtain ⟨pre, T, r, HJ, HI, HL⟩ := hrel
    have c1 := HI.out.box.cell 0
    have f1 := HI.out.box.frozen 0
    simp only [List.getElem?_toArray, List.getElem?_cons_zero] at c1
    have HLF : Hid (leftOf g1 wr = r.length) := Lib.hid (by unfold leftOf; rw [c1]; simp [lenV, SB_size])
    by_cases hn : r = []
    · subst hn
      have HF : Hid (J (linesL s) T wr) := Lib.hid (by rw [HL.out, linesL_nil, List.append_nil]; exact HJ.out)
      have c1' : wr.cell? ⟨g1, 0, none⟩ = some (.string ⟨#[]⟩) := c1
      clear c1
      go_wp2_with fail
      go_end0
      exact ⟨⟨_, rfl⟩, T, .inl HF.out⟩
    · obtain ⟨x, q, mb, hcut, hll, hql, hxl, _⟩ := line_step r hn HI.out.len
      have hisE : (SB r).toList.isEmpty = false := SB_nonempty (fun e => hn (by have := SB_size r; rw [e] at this; exact List.length_eq_zero_iff.1 this.symm))
      have hcall := cut_call 10 r wr HI.out.ml HI.out.len
      rw [hcut] at hcall
      have HCALL : Hid (Calls Tryd.prog 44 #[.string (SB r), .string ⟨#[10]⟩] wr fun e w' => e = .returned (.tuple #[.string (SB x), .string (SB q), .bool mb]) ∧ ∃ n, w' = wr.drewN n) := Lib.hid hcall
      have hpre : pre ++ [(x, mb)] <+: linesL s := by rw [HL.out, hll]; exact ⟨linesL q, by simp⟩
      have HPRE := Lib.hid hpre
      have HL2 : Hid (linesL s = (pre ++ [(x, mb)]) ++ linesL q) := Lib.hid (by rw [HL.out, hll]; simp)
      have HQL := Lib.hid hql
      obtain ⟨S, hS⟩ : ∃ S, S = SB r := ⟨_, rfl⟩
      rw [← hS] at c1 hisE HCALL
      clear hS hcall hcut hll hpre hql hn
      go_upto_region 2 with (go_at_call 44; refine HCALL.out.mono ?_; rintro e w1 ⟨rfl, dn, hw1⟩; have hb1 : Below wr.heap.size wr w1 := (by rw [hw1]; exact bdrewN (Below.refl _ _) _); have HB1 := Lib.hid hb1; clear hw1 hb1)
      have hJ1 : J pre T w1 := hJ _ _ _ _ HJ.out (Lies.of_below HB1.out)
      obtain ⟨fn, tmps, assign, body, hy, hR⟩ := hY _ _ T w1 HPRE.out hJ1
      have HB1x := Lib.hid (HI.out.box.keep HB1.out)
      have HML1 := Lib.hid (HI.out.ml.below HB1.out)
      dsimp only [encL] at hy
      refine (wpIn_wide (n := 9)).1 ?_
      gi_wp2_with fail
      refine hR.mono ?_
      rintro e wD ⟨T', hT, ⟨rfl, hJD⟩ | ⟨rfl, hJD⟩⟩
      · have hn1 : ¬ (T g1 ∨ g1 = ly) := fun h => h.elim HI.out.nT.1 HNE.out.1
        have hn2 : ¬ (T 0 ∨ 0 = ly) := fun h => h.elim HI.out.nT.2 HNE.out.2.1
        have hBD := hT.blk HB1x.out hn1
        have hMD : ML wD := HML1.out.same (hT.block _ HML1.out.lt hn2)
        have hl1 := HB1x.out.lt
        have hl2 := HML1.out.lt
        have hT' : ¬ T' g1 ∧ ¬ T' 0 := ⟨fun h => (hT.sub _ h).elim hn1 (fun h => by omega), fun h => (hT.sub _ h).elim hn2 (fun h => by omega)⟩
        have HFIN : Hid (J (pre ++ [(x, mb)]) T' (wD.setCell ⟨g1, 0, none⟩ (.string (SB q))) ∧ LIt g1 q T' (wD.setCell ⟨g1, 0, none⟩ (.string (SB q)))) := Lib.hid (by
          refine ⟨hJ _ _ _ _ hJD (Lies.setCell _ _ _ _ (fun h => h.elim hT'.1 (fun h => h.2 rfl)) _), hBD.set_ 0 _, hMD.same (Below.heap_setCell wD ⟨g1, 0, none⟩ _ _ (fun e => HNE.out.2.2 e.symm)), hT', by have := HI.out.len; have := HQL.out; omega⟩)
        have hcD := hBD.cell 0
        have hfD := hBD.frozen 0
        simp only [List.getElem?_toArray, List.getElem?_cons_zero] at hcD
        have HM : Hid (leftOf g1 (wD.setCell ⟨g1, 0, none⟩ (.string (SB q))) < leftOf g1 wr) := Lib.hid (by
          rw [HLF.out]
          unfold leftOf
          have := HFIN.out.2.box.cell 0
          simp only [List.getElem?_toArray, List.getElem?_cons_zero] at this
          rw [this]
          simp only [Option.getD_some, lenV, SB_size]
          exact HQL.out)
        clear hR hy hT hn1 hn2 hBD hMD hl1 hl2 hT' hJD hJ1 c1 f1 hisE
        gi_wp2_with fail
        go_wp2_with fail
        exact ⟨⟨_, T', q, Lib.hid HFIN.out.1, Lib.hid HFIN.out.2, HL2⟩, HM.out⟩
      · gi_wp2_with fail
        go_wp2_with fail
        refine bodyPost_ret (results_none rfl _ _ _) rfl ?_
        exact ⟨⟨_, rfl⟩, T', .inr ⟨_, HPRE.out, hJD⟩⟩
end Go.Proofs.YtmaifldiondchaaDoor
