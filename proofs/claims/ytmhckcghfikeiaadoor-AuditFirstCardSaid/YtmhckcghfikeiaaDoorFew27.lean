/- tolllaw27.few. -/
import Derived.Test.YtmhckcghfikeiaaDoorGiven27
namespace Go.Proofs.YtmhckcghfikeiaaDoor
open Go.RowKit
set_option linter.unusedSimpArgs false

def liveOk (r : RowD) : Bool := !(decide (r.live < -1099511627776) || decide (1099511627776 < r.live))
def fewB (skew : Int) (l : List RowD) : Bool := l.all liveOk && (decide ((l.length : Int) ≤ 60) && (decide (1 ≤ skew) && decide (skew ≤ 1073741824)))

set_option maxRecDepth 100000 in
set_option maxHeartbeats 2000000 in
theorem few_any (skew : Int) (l : List RowD) (A : Option Addr) (cap : Nat) (w : World) (hs : Sn w 36 (.slice A l.length cap) l.length (l.flatMap rowC)) (hok : ∀ r ∈ l, RowOk r) (hm : l.length ≤ 9223372036854775807) :
    Calls Tryd.prog 8 #[.int .i64 skew, .slice A l.length cap] w fun e w' => e = .returned (.bool (fewB skew l)) ∧ w' = w := by
  have HS := Lib.hid hs
  have HOK := Lib.hid hok
  clear hs hok
  go_enter Tryd.func8, Tryd.ntmps8
  go_wp2_with fail
  go_loopw [5] (fun i wr => ∃ k : Nat, k ≤ l.length ∧ i = .int .i64 k ∧ Hid ((l.take k).all liveOk = true) ∧ wr = w) (fun i _ => l.length - (intOf i).toNat)
  case atStart => exact ⟨0, Nat.zero_le _, rfl, Lib.hid (by simp), rfl⟩
  case round =>
    obtain ⟨k, hk, rfl, HA, hw⟩ := hrel
    rw [hw]
    clear hw
    rcases Nat.lt_or_ge k l.length with hlt | hge
    · obtain ⟨b, off, eA, hr⟩ := at_row HS.out HOK.out k hlt
      subst eA
      obtain ⟨r, hrr⟩ : ∃ r, r = l[k] := ⟨_, rfl⟩
      rw [← hrr] at hr
      have hc3 : w.cell? ⟨b, off + k * 36 + 3, none⟩ = some (.int .i64 r.live) := hr 3 _ rfl
      have hi0 : (0 : Int) ≤ k := by omega
      have hi1 : (k : Int) < l.length := by omega
      have HRR := Lib.hid hrr
      have hst : Hid ((l.take (k + 1)).all liveOk = liveOk r) := Lib.hid (by
        rw [List.take_succ_eq_append_getElem hlt, List.all_append, HA.out, hrr]
        simp)
      clear hr hrr
      rcases Bool.eq_false_or_eq_true (decide (r.live < -1099511627776)) with t1 | t1 <;> rcases Bool.eq_false_or_eq_true (decide (1099511627776 < r.live)) with t2 | t2
      case inr.inr =>
        go_wp2_with fail
        exact ⟨⟨k + 1, by omega, by go_num, Lib.hid (by rw [hst.out]; unfold liveOk; rw [t1, t2]; rfl), by trivial⟩, by simp [intOf]; omega⟩
      all_goals
        have hbad : l.all liveOk = false := by
          rw [List.all_eq_false]
          refine ⟨r, by rw [HRR.out]; exact List.getElem_mem hlt, ?_⟩
          unfold liveOk
          rw [t1, t2]
          decide
        have HBAD := Lib.hid hbad
        clear hbad
        go_wp2_with fail
        go_ret
        refine ⟨?_, rfl⟩
        unfold fewB
        rw [HBAD.out]
        rfl
    · obtain rfl : k = l.length := by omega
      have hall := HA.out
      rw [List.take_length] at hall
      have HALL := Lib.hid hall
      clear hall
      rcases Bool.eq_false_or_eq_true (decide ((l.length : Int) ≤ 60)) with t1 | t1 <;> rcases Bool.eq_false_or_eq_true (decide (1 ≤ skew)) with t2 | t2 <;> rcases Bool.eq_false_or_eq_true (decide (skew ≤ 1073741824)) with t3 | t3
      all_goals
        go_wp2_with fail
        go_ret
        refine ⟨?_, rfl⟩
        unfold fewB
        rw [HALL.out, t1, t2, t3]
        rfl
end Go.Proofs.YtmhckcghfikeiaaDoor
