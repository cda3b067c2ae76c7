/- audit.Rules, audit.Text, tollref27.Text. -/
import Derived.Test.YtmhckcghfikeiaaDoorFinds4
import Derived.Test.YtmhckcghfikeiaaDoorTabl
import Derived.Lib.AppendStr
import Derived.Deep.RegionHeld3
namespace Go.Proofs.YtmhckcghfikeiaaDoor
open Go.RowKit
attribute [local irreducible] wpQuiet wpAnyH
set_option linter.unusedSimpArgs false

theorem tStr : SlT Tryd.prog 39 9 1 16 := SlT.mk' Tryd.underlying39 (z := .string ByteArray.empty) (by kernel_rfl) rfl (by decide)
theorem tByt : SlT Tryd.prog 57 5 1 1 := SlT.mk' Tryd.underlying57 (z := .int .u8 0) (by kernel_rfl) rfl (by decide)
def names (k : Nat) : List Value := (List.range k).map fun i => .string (ruleN i)
theorem names_succ (k : Nat) : names (k + 1) = names k ++ [.string (ruleN k)] := by simp [names, List.range_succ]

set_option maxRecDepth 100000 in
set_option maxHeartbeats 2000000 in
theorem Rules_any (w : World) :
    Calls Tryd.prog 17 #[] w fun e w' => ∃ v, e = .returned v ∧ w'.ownsRow w.heap.size 9 1 v 5 (names 5) ∧ Below w.heap.size w w' := by
  go_enter Tryd.func17, Tryd.ntmps17
  go_wp2_with fail
  refine (rules_any _).mono ?_
  rintro e w1 ⟨rfl, hR, hb1, hz1⟩
  have HR := Lib.hid hR
  have hsz1 := hb1.size
  clear hR hz1
  go_wp2_with fail
  go_loopw [1, 6] (fun m i wr => ∃ k : Nat, k ≤ 5 ∧ i = .int .i64 k ∧ Hid (wr.ownsRow w1.heap.size 9 1 m k (names k)) ∧ Hid (Below w1.heap.size w1 wr)) (fun _ i _ => 5 - (intOf i).toNat)
  case atStart => exact ⟨0, by omega, rfl, Lib.hid (World.ownsRow_nil _ _ _ _), Lib.hid (Below.refl _ _)⟩
  case round =>
    obtain ⟨k, hk, rfl, HO, HB⟩ := hrel
    rcases Nat.lt_or_ge k 5 with hlt | hge
    · have HRK := Lib.hid (rules_at (HR.out.keep HB.out) k hlt)
      have hzr : ∀ w, (zeroValue 64).run Tryd.prog w = .ok (.agg #[.string ByteArray.empty, .nilFunc]) w := fun w => by kernel_rfl
      have HZR := Lib.hid hzr
      have hszr := HB.out.size
      have hi0 : (0 : Int) ≤ k := by omega
      have hi1 : (k : Int) < 5 := by omega
      clear hzr
      go_wp2_with (first
        | (refine ld 64 (.tmp 8) rfl rfl (by rfl) HRK.out Tryd.underlying64 rfl (by kernel_rfl) ?_)
        | (refine al 64 _ rfl rfl HZR.out ?_)
        | (refine stNew 64 (.tmp 3) (.tmp 9) rfl rfl (by rfl) (by rfl) (by kernel_rfl) (by rfl) (all_oneCell_toArray (ruleV_one k)) ?_; intro wN hBN hbN hzN; have c0 := (show Blk wN wr.heap.size 64 (ruleV k).toArray from hBN).cell 0; simp only [List.getElem?_toArray, ruleV, List.getElem?_cons_zero] at c0; have HON := Lib.hid (own_below HO.out hbN); have HBN := Lib.hid (HB.out.trans (hbN.mono hszr)); have hszN := HBN.out.size; clear hBN hzN)
        | (at_builtin; refine app tStr (.tmp 10) (.tmp 13) rfl rfl (by rfl) (HON.out.alloc _) (by rfl) (Sn.new wN #[.string (ruleN k)] 9 1 1 rfl) (by intro u hu; simp at hu; subst hu; rfl) (by unfold maxLen; omega) (by omega) (by simp; omega) ?_; intro v' w3 hown hgrow hblk; have HOW := Lib.hid hown; have HGR := Lib.hid hgrow; clear hown hgrow hblk))
      have hO3 := HOW.out
      rw [← names_succ] at hO3
      exact ⟨⟨k + 1, by omega, by go_num, Lib.hid hO3, Lib.hid ((HBN.out.alloc hszN _).grown HGR.out (by simp; omega) (fun g hg => (HON.out.lt g hg).1))⟩, by simp [intOf]; omega⟩
    · obtain rfl : k = 5 := by omega
      go_wp2_with fail
      go_ret
      exact ⟨_, rfl, ⟨HO.out.1, (HO.out.2).imp id (fun ⟨g, cap, cur, h1, h2, h3⟩ => ⟨g, cap, cur, h1, by omega, h3⟩)⟩, bstep hb1 HB.out⟩
end Go.Proofs.YtmhckcghfikeiaaDoor
