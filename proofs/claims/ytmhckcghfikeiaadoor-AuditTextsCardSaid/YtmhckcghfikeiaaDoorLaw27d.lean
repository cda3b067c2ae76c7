/- The law AuditTexts: its walk. -/
import Derived.Test.YtmhckcghfikeiaaDoorAwake27
import Derived.Test.YtmhckcghfikeiaaDoorElems
namespace Go.Proofs.YtmhckcghfikeiaaDoor
open Go.RowKit Go.ChangeShapes Go.WideShapes Go.Deep
set_option linter.unusedSimpArgs false

section
variable {H : Type} {enc : TypeId × Value → H} {w : World} {base : Nat} {held : Bool}
def TfIn (f : ByteArray × Int) : Prop := f.1.size ≤ maxLen ∧ isI64 f.2
theorem tf_cells {spare : Nat → Bool} {fuel : Nat} {cs : List Value} {x : DataW H × List MemPlace} (h : DataW.trod enc Tryd.prog w base spare held fuel 33 cs = some x) : ∃ f : ByteArray × Int, TfIn f ∧ cs = tfC f := by
  obtain ⟨xs, n, _, _, hl, hx, hf⟩ := DataW.trod_struct Tryd.underlying33 h
  have hC : Tryd.prog.cellsOf 33 = 2 := by kernel_rfl
  rw [hC] at hl
  have hx2 : xs.length = 2 := hx
  have g : ∀ i, i < 2 → xs[i]? = some (xs[i]?.getD (.nil, [])) := fun i hi => by simp [List.getElem?_eq_getElem (show i < xs.length by omega)]
  have f0 := (hf 0 _ rfl).trans (g 0 (by omega))
  have f1 := (hf 1 _ rfl).trans (g 1 (by omega))
  obtain ⟨s, h0, hs0, w0⟩ := DataW.trod_string Tryd.underlying9 f0
  obtain ⟨k1, h1, _, w1⟩ := DataW.trod_int Tryd.underlying3 f1
  have c0 : Tryd.prog.cellsOf 9 = 1 := by kernel_rfl
  have c1 : Tryd.prog.cellsOf 3 = 1 := by kernel_rfl
  replace h0 : (cs.drop 0).take (Tryd.prog.cellsOf 9) = [.string s] := h0
  replace h1 : (cs.drop 1).take (Tryd.prog.cellsOf 3) = [.int .i64 k1] := h1
  rw [c0] at h0
  rw [c1] at h1
  refine ⟨(s, k1), ⟨w0, isI64_of w1⟩, ?_⟩
  match cs, hl with
  | [v0, v1], _ =>
    simp at h0 h1
    subst h0 h1
    rfl
theorem open_tfs {fuel : Nat} {A : Option Addr} {len cap : Nat} {x : DataW H × List MemPlace} (h : DataW.trod enc Tryd.prog w base (fun _ => true) held fuel 29 [.slice A len cap] = some x) :
    ∃ l : List (ByteArray × Int), l.length = len ∧ (∀ f ∈ l, TfIn f) ∧ Sn w 2 (.slice A len cap) len (l.flatMap tfC) :=
  open_elems tfC TfIn 2 (by decide) (fun _ _ => rfl) Tryd.underlying29 (by kernel_rfl) (fun _ _ _ h => tf_cells h) h
end

theorem tfs_snoc (l : List (ByteArray × Int)) (k : Nat) (h : k < l.length) : (l.take k).flatMap tfC ++ tfC l[k] = (l.take (k + 1)).flatMap tfC := by
  rw [List.take_succ_eq_append_getElem h, List.flatMap_append]
  simp

set_option maxRecDepth 100000 in
set_option maxHeartbeats 4000000 in
theorem texts_any (fs : List (ByteArray × Int)) (A : Option Addr) (cap : Nat) (w : World) (ht : Tab w) (hs : Sn w 2 (.slice A fs.length cap) fs.length (fs.flatMap tfC)) (hok : ∀ f ∈ fs, TfIn f) :
    Calls Tryd.prog 6 #[.slice A fs.length cap] w fun e w' => e = .returned (.bool true) ∧ Below w.heap.size w w' := by
  have HS := Lib.hid hs
  have HOK := Lib.hid hok
  have HT := Lib.hid ht
  clear hs hok ht
  rcases Bool.eq_false_or_eq_true (decide ((50 : Int) < fs.length)) with d1 | d1
  · go_enter Tryd.func6, Tryd.ntmps6
    go_wp2_with fail
    refine (awake_any w HT.out).mono ?_
    rintro e w1 ⟨rfl, hb1⟩
    have HB1 := Lib.hid hb1
    clear hb1
    go_wp2_with fail
    refine (awake_any w1 (HT.out.below HB1.out)).mono ?_
    rintro e w2 ⟨rfl, hb2⟩
    have HB2 := Lib.hid hb2
    clear hb2
    go_wp2_with fail
    go_ret
    exact ⟨rfl, bstep HB1.out HB2.out⟩
  · have hl : fs.length ≤ 50 := by have := of_decide_eq_false d1; omega
    go_enter Tryd.func6, Tryd.ntmps6
    go_wp2_with fail
    refine (awake_any w HT.out).mono ?_
    rintro e w1 ⟨rfl, hb1⟩
    have HB1 := Lib.hid hb1
    have hsz1 := hb1.size
    clear hb1
    go_wp2_with fail
    go_loopw [3, 4] (fun m i wr => ∃ k : Nat, k ≤ fs.length ∧ i = .int .i64 k ∧ Hid (∀ f ∈ fs.take k, f.1.size ≤ 50) ∧ Hid (wr.ownsRow w1.heap.size 34 2 m k ((fs.take k).flatMap tfC)) ∧ Hid (Below w1.heap.size w1 wr)) (fun _ i _ => fs.length - (intOf i).toNat)
    case atStart => exact ⟨0, Nat.zero_le _, rfl, Lib.hid (by simp), Lib.hid (World.ownsRow_nil _ _ _ _), Lib.hid (Below.refl _ _)⟩
    case round =>
      obtain ⟨k, hk, rfl, HF, HO, HB⟩ := hrel
      have HB0 := Lib.hid (bstep HB1.out HB.out)
      have hszr := HB.out.size
      rcases Nat.lt_or_ge k fs.length with hlt | hge
      · obtain ⟨b, off, eA, hrow⟩ := at_tf (HS.out.below HB0.out) k hlt
        subst eA
        obtain ⟨f, hf⟩ : ∃ f, f = fs[k] := ⟨_, rfl⟩
        rw [← hf] at hrow
        have c0 : wr.cell? ⟨b, off + k * 2, none⟩ = some (.string f.1) := hrow 0 _ rfl
        have HROW := Lib.hid hrow
        have hfm : f.1.size ≤ 9223372036854775807 := by have := (HOK.out fs[k] (List.getElem_mem hlt)).1; rw [← hf] at this; unfold maxLen at this; omega
        have HFF := Lib.hid hf
        have hsn := tfs_snoc fs k hlt
        rw [← hf] at hsn
        have HSN := Lib.hid hsn
        have hi0 : (0 : Int) ≤ k := by omega
        have hi1 : (k : Int) < fs.length := by omega
        clear hf hrow hsn
        rcases Bool.eq_false_or_eq_true (decide ((50 : Int) < f.1.size)) with t1 | t1
        · go_wp2_with fail
          go_ret
          exact ⟨rfl, HB0.out⟩
        · have hfc : (tfC f).length = 2 := rfl
          have hf50 : Hid (f.1.size ≤ 50) := Lib.hid (by have := of_decide_eq_false t1; omega)
          go_wp2_with (first
            | (refine ld 33 (.tmp 29) rfl rfl (by rfl) HROW.out Tryd.underlying33 rfl (by kernel_rfl) ?_)
            | (at_builtin; refine app tFnd (.tmp 26) (.tmp 31) rfl rfl (by rfl) (HO.out.alloc _) (by rfl) (Sn.new wr (tfC f).toArray 34 2 1 rfl) (tfC_one f) (by unfold maxLen; omega) (by omega) (by simp; omega) ?_; intro v3 w3 hown hgrow hblk; rw [List.toList_toArray, HSN.out] at hown; have HOW := Lib.hid hown; have HBW := Lib.hid ((HB.out.alloc hszr _).grown hgrow (by simp; omega) (fun g hg => (HO.out.lt g hg).1)); clear hown hgrow hblk))
          exact ⟨⟨k + 1, by omega, by go_num, Lib.hid (fun g hg => by
            rw [List.take_succ_eq_append_getElem hlt, List.mem_append] at hg
            rcases hg with hg | hg
            · exact HF.out g hg
            · obtain rfl : g = fs[k] := by simpa using hg
              rw [← HFF.out]; exact hf50.out), HOW, HBW⟩, by simp [intOf]; omega⟩
      · obtain rfl : k = fs.length := by omega
        have hO := HO.out
        have hF := HF.out
        rw [List.take_length] at hO hF
        have htf : ∀ f ∈ fs, TfOk f := fun f hf => ⟨by have := hF f hf; omega, (HOK.out f hf).2⟩
        obtain ⟨A3, c3, e3, hs3, _⟩ := own_slice hO
        subst e3
        have HS3 := Lib.hid hs3
        have HTF := Lib.hid htf
        clear hO hF htf hs3
        go_wp2_with fail
        refine (text_any fs A3 c3 wr (HT.out.below HB0.out) HS3.out HTF.out (by omega)).mono ?_
        rintro e w4 ⟨rfl, hb4⟩
        have HB4 := Lib.hid (bstep HB0.out hb4)
        clear hb4
        go_wp2_with fail
        refine (ref_text_any fs A cap w4 (HS.out.below HB4.out) HTF.out (by omega)).mono ?_
        rintro e w5 ⟨rfl, hb5⟩
        have HB5 := Lib.hid (bstep HB4.out hb5)
        clear hb5
        go_wp2_with fail
        go_ret
        refine ⟨?_, HB5.out⟩
        simp
end Go.Proofs.YtmhckcghfikeiaaDoor
