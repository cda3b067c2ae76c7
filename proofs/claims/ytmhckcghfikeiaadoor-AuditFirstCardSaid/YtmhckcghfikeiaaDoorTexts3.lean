/- tollref27.Text. -/
import Derived.Test.YtmhckcghfikeiaaDoorTexts2
namespace Go.Proofs.YtmhckcghfikeiaaDoor
open Go.RowKit
set_option linter.unusedSimpArgs false

set_option maxRecDepth 100000 in
set_option maxHeartbeats 4000000 in
theorem ref_text_any (fs : List (ByteArray × Int)) (A : Option Addr) (cap : Nat) (w : World) (hs : Sn w 2 (.slice A fs.length cap) fs.length (fs.flatMap tfC)) (hok : ∀ f ∈ fs, TfOk f) (hl : fs.length ≤ 100000) :
    Calls Tryd.prog 14 #[.slice A fs.length cap] w fun e w' => e = .returned (.string (textS fs)) ∧ Below w.heap.size w w' := by
  have HS := Lib.hid hs
  have HOK := Lib.hid hok
  clear hs hok
  go_enter Tryd.func14, Tryd.ntmps14
  go_wp2_with fail
  go_loopw [3, 4] (fun m i wr => ∃ k : Nat, k ≤ fs.length ∧ i = .int .i64 k ∧ m = .string (textS (fs.take k)) ∧ Hid (Below w.heap.size w wr)) (fun _ i _ => fs.length - (intOf i).toNat)
  case atStart => exact ⟨0, Nat.zero_le _, rfl, rfl, Lib.hid (Below.refl _ _)⟩
  case round =>
    obtain ⟨k, hk, rfl, rfl, HB⟩ := hrel
    rcases Nat.lt_or_ge k fs.length with hlt | hge
    · have hlen : (textS (fs.take k)).size ≤ 1022 * 100000 := by
        have h1 := textL_len (fs.take k) (fun f hf => HOK.out f (List.mem_of_mem_take hf))
        rw [List.length_take] at h1
        have h2 : (textS (fs.take k)).size = (textL (fs.take k)).length := by unfold textS; show (textL (fs.take k)).toArray.size = _; simp
        omega
      obtain ⟨b, off, eA, hrow⟩ := at_tf (HS.out.below HB.out) k hlt
      subst eA
      obtain ⟨f, hf⟩ : ∃ f, f = fs[k] := ⟨_, rfl⟩
      rw [← hf] at hrow
      have hfo : TfOk f := by rw [hf]; exact HOK.out _ (List.getElem_mem _)
      have hfs : f.1.size ≤ 1000 := hfo.1
      have HFO := Lib.hid hfo
      have HSN := Lib.hid (textL_snoc fs k hlt)
      have HF := Lib.hid hf
      have c0 : wr.cell? ⟨b, off + k * 2, none⟩ = some (.string f.1) := hrow 0 _ rfl
      have c1 : wr.cell? ⟨b, off + k * 2 + 1, none⟩ = some (.int .i64 f.2) := hrow 1 _ rfl
      have hi0 : (0 : Int) ≤ k := by omega
      have hi1 : (k : Int) < fs.length := by omega
      have hit := itoaS_size f.2 hfo.2.1 hfo.2.2
      obtain ⟨S, hS⟩ : ∃ S, S = textS (fs.take k) := ⟨_, rfl⟩
      rw [← hS] at hlen
      rw [← hS]
      have HSS := Lib.hid hS
      clear hf hfo hrow hS
      have s1 : (S ++ f.1).size ≤ 1022 * 100000 + 1000 := by rw [ByteArray.size_append]; omega
      have s2 : (S ++ f.1 ++ ⟨#[32]⟩).size ≤ 1022 * 100000 + 1001 := by rw [ByteArray.size_append]; have : (⟨#[32]⟩ : ByteArray).size = 1 := rfl; omega
      have s3 : (S ++ f.1 ++ ⟨#[32]⟩ ++ itoaS f.2).size ≤ 1022 * 100000 + 1021 := by rw [ByteArray.size_append]; omega
      go_wp2_with fail
      go_quiet ((go_at_call 22; exact Calls.quiet_of (dec_any f.2 _ HFO.out.2.1 HFO.out.2.2)))
      go_wp2_with fail
      have hfin : S ++ f.1 ++ ⟨#[32]⟩ ++ itoaS f.2 ++ ⟨#[10]⟩ = textS (fs.take (k + 1)) := by
        rw [HSS.out]
        unfold textS
        rw [HSN.out, ← HF.out]
        refine ByteArray.ext (Array.toList_inj.1 ?_)
        simp [lineT, itoaS]
      exact ⟨⟨k + 1, by omega, by go_num, congrArg Value.string hfin, Lib.hid (bdrewN HB.out _)⟩, by simp [intOf]; omega⟩
    · obtain rfl : k = fs.length := by omega
      rw [List.take_length]
      go_wp2_with fail
      go_ret
      exact ⟨rfl, HB.out⟩
end Go.Proofs.YtmhckcghfikeiaaDoor
