/- tally.Of: what it computes. -/
import Derived.Test.YtdidohfdedkfaaaDoorRows25
import Derived.Test.YtdidohfdedkfaaaDoorFl
import Derived.Test.YtdidohfdedkfaaaDoorArms
namespace Go.Proofs.YtdidohfdedkfaaaDoor
open Go.RowKit

def isVerify (r : RowD) : Bool := r.kind == 3
def isAcc (r : RowD) : Bool := r.kind == 3 && r.code == 10
def nAcc (l : List RowD) : Nat := (l.filter isAcc).length
def nOth (l : List RowD) : Nat := (l.filter fun r => isVerify r && !isAcc r).length
def cx (a b : Nat) : Value := .complex .f64 (flw a) (flw b)

theorem at_row {w : World} {A : Option Addr} {cap : Nat} {l : List RowD} (h : Sn w 36 (.slice A l.length cap) l.length (l.flatMap rowC)) (hok : ∀ r ∈ l, RowOk r) (k : Nat) (hk : k < l.length) :
    ∃ b off, A = some ⟨b, off, none⟩ ∧ w.rangeAt b (off + k * 36) (rowC l[k]) := by
  obtain ⟨b, off, hA, hr⟩ := h.range k hk
  rw [flatMap_piece rowC 36 l (fun r hr => rowC_length (hok r hr)) k hk] at hr
  exact ⟨b, off, hA, hr⟩
theorem rowC_one (r : RowD) : (rowC r).toArray.all (·.oneCell') = true := by
  refine all_oneCell_toArray fun v hv => ?_
  simp [rowC, u8s] at hv
  rcases hv with rfl | rfl | rfl | rfl | ⟨_, _, rfl⟩ <;> rfl
theorem nAcc_snoc (l : List RowD) (k : Nat) (h : k < l.length) : nAcc (l.take (k + 1)) = nAcc (l.take k) + (if isAcc l[k] then 1 else 0) ∧ nOth (l.take (k + 1)) = nOth (l.take k) + (if isVerify l[k] && !isAcc l[k] then 1 else 0) := by
  unfold nAcc nOth
  rw [List.take_succ_eq_append_getElem h, List.filter_append, List.filter_append, List.length_append, List.length_append]
  constructor <;> (congr 1; simp only [List.filter_cons, List.filter_nil]; split <;> rfl)
theorem nAcc_le (l : List RowD) : nAcc l ≤ l.length ∧ nOth l ≤ l.length := ⟨List.length_filter_le _ _, List.length_filter_le _ _⟩

theorem cadd (a b c d : Nat) (h1 : a + c < 2 ^ 53) (h2 : b + d < 2 ^ 53) (t : TypeId) (w : World) : (binOp .add t (.complex .f64 (flw a) (flw b)) (.complex .f64 (flw c) (flw d))).run Tryd.prog w = .ok (.complex .f64 (flw (a + c)) (flw (b + d))) w := by
  refine run_complex_sum w .add (.inl rfl) t .f64 _ _ _ _ _ _ ?_
  have e1 : floatBits .add .f64 (flw a) (flw c) = some (flw (a + c)) := by
    simp only [floatBits]
    exact add_flw a c h1
  have e2 : floatBits .add .f64 (flw b) (flw d) = some (flw (b + d)) := by
    simp only [floatBits]
    exact add_flw b d h2
  simp [cSumBits, e1, e2]
theorem cx_one : Value.complex .f64 4607182418800017408 0 = cx 1 0 := by
  have h1 : flw 1 = 4607182418800017408 := by decide
  rw [cx, h1]; rfl
theorem cx_i : Value.complex .f64 0 4607182418800017408 = cx 0 1 := by
  have h1 : flw 1 = 4607182418800017408 := by decide
  rw [cx, h1]; rfl
/-- The walk's law for a sum of tallies. -/
theorem cAdd {ops : Array Oper} {rest : List Oper} {o : Oper} {a : Act} {w : World} {Q : Exit → Act → World → Prop} (t : TypeId) (p q : Operand) (ho : o.op = .binOp .add t p q t) (hw : Region.wanted o (yielded ops a.tmps) = true)
    {m n m' n' : Nat} (hp : a.eval p = cx m n) (hq : a.eval q = cx m' n') (h1 : m + m' < 2 ^ 53) (h2 : n + n' < 2 ^ 53)
    (h : wpList Tryd.prog ops Q rest (a.put o.dst (cx (m + m') (n + n'))) w) : wpList Tryd.prog ops Q (o :: rest) a w :=
  wpList_step fun K hK => by
    rw [if_pos hw]
    have hr : (binOp .add t (cx m n) (cx m' n')).run Tryd.prog w = .ok (cx (m + m') (n + n')) w := by
      unfold cx; exact cadd m n m' n' h1 h2 t w
    unfold Oper.wp execOp
    simp only [ho, hp, hq]
    simp [eqGuard, hr]
    exact hK _ _ h
attribute [irreducible] cx

theorem cx_00 : Value.complex .f64 0 0 = cx 0 0 := by unfold cx; rfl
set_option maxHeartbeats 2000000 in
theorem of_any (v : Value) (l : List RowD) (w : World) (hs : Sn w 36 v l.length (l.flatMap rowC)) (hok : ∀ r ∈ l, RowOk r) (hl : l.length ≤ 1000) :
    Calls Tryd.prog 12 #[v] w fun e w' => e = .returned (cx (nAcc l) (nOth l)) ∧ Below w.heap.size w w' := by
  obtain ⟨A, cap, rfl, hcap, _, _⟩ := id hs
  go_enter Tryd.func12, Tryd.ntmps12
  go_wp2
  go_loopw [3, 8] (fun m i wr => ∃ k : Nat, k ≤ l.length ∧ i = .int .i64 k ∧ m = cx (nAcc (l.take k)) (nOth (l.take k)) ∧ Below w.heap.size w wr) (fun _ i _ => l.length - (intOf i).toNat)
  case atStart => exact ⟨0, Nat.zero_le _, rfl, cx_00, Below.refl _ _⟩
  case round =>
    obtain ⟨k, hk, rfl, rfl, hb⟩ := hrel
    by_cases hlt : k < l.length
    · obtain ⟨b, off, rfl, hr⟩ := at_row (hs.below hb) hok k hlt
      have hlen := rowC_length (hok l[k] (List.getElem_mem hlt))
      have h1 := rowC_one l[k]
      have hsz := hb.size
      obtain ⟨ea, eo⟩ := nAcc_snoc l k hlt
      have ba := nAcc_le (l.take k)
      have bl : (l.take k).length ≤ k := List.length_take_le _ _
      have EA := Lib.hid ea
      have EO := Lib.hid eo
      clear ea eo
      rcases Bool.eq_false_or_eq_true (l[k].kind == 3) with t1 | t1 <;> rcases Bool.eq_false_or_eq_true (l[k].code == 10) with t2 | t2
      all_goals have t3 : (l[k].kind != 3) = !(l[k].kind == 3) := rfl
      all_goals rw [t1] at t3
      all_goals go_wp2_with (first
        | (refine ld 53 (.tmp 10) rfl rfl rfl hr Tryd.underlying53 rfl (by rw [hlen]; kernel_rfl) ?_)
        | (refine stNew 53 (.tmp 5) (.tmp 11) rfl rfl rfl rfl (by simp only [List.size_toArray, hlen]; kernel_rfl) (by simp only [List.size_toArray, hlen]; rfl) h1 ?_; intro w2 hblk hb2 hsz2; have hc0 : w2.cell? ⟨wr.heap.size, 0, none⟩ = some (.int .i64 l[k].kind) := cell_blk hblk 0; have hc1 : w2.cell? ⟨wr.heap.size, 1, none⟩ = some (.int .i64 l[k].code) := cell_blk hblk 1; clear hblk)
        | (refine cAdd 32 (.tmp 22) (.const _) rfl rfl rfl cx_one (by omega) (by omega) ?_)
        | (refine cAdd 32 (.tmp 12) (.const _) rfl rfl rfl cx_i (by omega) (by omega) ?_))
      all_goals exact ⟨⟨k + 1, by omega, by go_num, by rw [EA.out, EO.out]; simp [isAcc, isVerify, t1, t2], bstep hb hb2⟩, by simp [intOf]; omega⟩
    · go_wp2
      go_ret
      have : k = l.length := by omega
      subst this
      rw [List.take_length]
      exact ⟨rfl, hb⟩
end Go.Proofs.YtdidohfdedkfaaaDoor
