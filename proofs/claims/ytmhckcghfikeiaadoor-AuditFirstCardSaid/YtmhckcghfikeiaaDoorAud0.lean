/- The findings of a journal: plain law. -/
import Derived.Test.YtmhckcghfikeiaaDoorRows27
namespace Go.Proofs.YtmhckcghfikeiaaDoor
open Go.RowKit

/-- What is known ahead of a row. -/
structure VS where
  first : Bool
  now : Int
  live : Int
  acc : List (List Int)
  booted : Bool
  boot : Int
def vs0 : VS := ⟨true, 0, 0, [], false, 0⟩
def isAcc (r : RowD) : Bool := r.kind == 3 && r.code == 10
def isBoot (r : RowD) : Bool := r.kind == 2 && r.code == 0
def nxt (s : VS) (r : RowD) : VS :=
  { first := false, now := r.now, live := r.live, acc := if isAcc r then s.acc ++ [r.dig] else s.acc, booted := s.booted || isBoot r, boot := if isBoot r then r.now else s.boot }
def stAt (l : List RowD) (k : Nat) : VS := (l.take k).foldl nxt vs0
theorem stAt_zero (l : List RowD) : stAt l 0 = vs0 := rfl
theorem stAt_succ (l : List RowD) (k : Nat) (h : k < l.length) : stAt l (k + 1) = nxt (stAt l k) l[k] := by
  unfold stAt
  rw [List.take_succ_eq_append_getElem h, List.foldl_append]
  rfl
theorem stAt_take (l : List RowD) (n k : Nat) (h : k ≤ n) : stAt (l.take n) k = stAt l k := by
  unfold stAt
  rw [List.take_take, Nat.min_eq_left h]

/-- A sum that saturates. -/
def addS (a b : Int) : Int := if a + b > 9223372036854775807 then 9223372036854775807 else if a + b < -9223372036854775808 then -9223372036854775808 else a + b
theorem addS_i64 (a b : Int) : isI64 (addS a b) := by unfold addS isI64; split <;> (try split) <;> omega

/-- A view: the row, with what is known ahead of it. -/
structure View where
  row : RowD
  skew : Int
  first : Bool
  now : Int
  live : Int
  rep : Bool
  booted : Bool
  boot : Int
def mkV (skew : Int) (s : VS) (r : RowD) : View := ⟨r, skew, s.first, s.now, s.live, s.acc.contains r.dig, s.booted, s.boot⟩
def viewC (v : View) : List Value := rowC v.row ++ [.int .i64 v.skew, .bool v.first, .int .i64 v.now, .int .i64 v.live, .bool v.rep, .bool v.booted, .int .i64 v.boot]
structure ViewOk (v : View) : Prop where
  row : RowOk v.row
  skew : isI64 v.skew
  now : isI64 v.now
  live : isI64 v.live
  boot : isI64 v.boot
theorem viewC_length {v : View} (h : ViewOk v) : (viewC v).length = 43 := by simp [viewC, rowC_length h.row]
def ansB (v : View) : Bool := v.row.kind == 3
def clockB (v : View) : Bool := !v.first && decide (v.row.now < v.now)
def onceB (v : View) : Bool := ansB v && (v.row.code == 10 && v.rep)
def quarB (v : View) : Bool := ansB v && ((v.row.code == 8 || (v.row.code == 9 || v.row.code == 10)) && (!v.booted || decide (v.row.now ≤ addS v.boot v.skew)))
def quietB (v : View) : Bool := ansB v && (decide (1 ≤ v.row.code) && (decide (v.row.code ≤ 8) && v.row.live != v.live))
def growB (v : View) : Bool := ansB v && (v.row.code == 10 && (v.live == 9223372036854775807 || v.row.live != v.live + 1))
def ruleB (k : Nat) (v : View) : Bool := match k with
  | 0 => clockB v
  | 1 => onceB v
  | 2 => quarB v
  | 3 => quietB v
  | _ => growB v
def ruleN (k : Nat) : ByteArray := match k with
  | 0 => ⟨#[99, 108, 111, 99, 107]⟩
  | 1 => ⟨#[111, 110, 99, 101]⟩
  | 2 => ⟨#[113, 117, 97, 114, 97, 110, 116, 105, 110, 101]⟩
  | 3 => ⟨#[113, 117, 105, 101, 116]⟩
  | _ => ⟨#[103, 114, 111, 119, 116, 104]⟩
def viewAt (skew : Int) (l : List RowD) (k : Nat) (r : RowD) : View := mkV skew (stAt l k) r
/-- The rules from j on that a row breaks. -/
def brk (i : Nat) (v : View) (j n : Nat) : List (Nat × Nat) := ((List.range' j n).filter (fun k => ruleB k v)).map (fun k => (k, i))
def dflt : RowD := ⟨0, 0, 0, 0, List.replicate 32 0⟩
/-- The findings of the first k rows. -/
def findK (skew : Int) (l : List RowD) (k : Nat) : List (Nat × Nat) := (List.range k).flatMap fun i => brk i (viewAt skew l i (l.getD i dflt)) 0 5
def findL (skew : Int) (l : List RowD) : List (Nat × Nat) := findK skew l l.length
theorem findK_succ (skew : Int) (l : List RowD) (k : Nat) (h : k < l.length) : findK skew l (k + 1) = findK skew l k ++ brk k (viewAt skew l k l[k]) 0 5 := by
  unfold findK
  rw [List.range_succ, List.flatMap_append]
  simp [List.getD_eq_getElem?_getD, List.getElem?_eq_getElem h]
theorem findK_zero (skew : Int) (l : List RowD) : findK skew l 0 = [] := rfl
theorem brk_succ (i : Nat) (v : View) (n : Nat) : brk i v 0 (n + 1) = brk i v 0 n ++ (if ruleB n v then [(n, i)] else []) := by
  unfold brk
  rw [List.range'_concat, List.filter_append, List.map_append]
  simp only [Nat.one_mul, Nat.zero_add]
  split <;> simp_all
theorem findK_at (skew : Int) (l : List RowD) (k : Nat) : ∀ f ∈ findK skew l k, f.1 < 5 ∧ f.2 < k := by
  intro f hf
  unfold findK brk at hf
  simp only [List.mem_flatMap, List.mem_range, List.mem_map, List.mem_filter, List.mem_range'_1] at hf
  obtain ⟨i, hi, j, ⟨hj, _⟩, rfl⟩ := hf
  exact ⟨by omega, hi⟩
theorem findK_take (skew : Int) (l : List RowD) (n : Nat) (hn : n ≤ l.length) : ∀ k, k ≤ n → findK skew (l.take n) k = findK skew l k := by
  intro k
  induction k with
  | zero => intro _; rfl
  | succ k ih =>
    intro hk
    have h1 : k < (l.take n).length := by rw [List.length_take]; omega
    rw [findK_succ _ _ _ h1, findK_succ _ _ _ (by omega), ih (by omega)]
    unfold viewAt
    rw [stAt_take _ _ _ (by omega), List.getElem_take]
theorem findL_take (skew : Int) (l : List RowD) (n : Nat) (hn : n ≤ l.length) : findL skew (l.take n) = findK skew l n := by
  unfold findL
  rw [List.length_take, Nat.min_eq_left hn, findK_take skew l n hn n (Nat.le_refl _)]
/-- The findings of the first k rows are the first ones. -/
theorem findK_prefix (skew : Int) (l : List RowD) (k : Nat) : ∀ n, k ≤ n → ∃ r, findK skew l n = findK skew l k ++ r ∧ ∀ f ∈ r, k ≤ f.2 := by
  intro n hn
  induction n with
  | zero =>
    obtain rfl : k = 0 := by omega
    exact ⟨[], by simp, by simp⟩
  | succ n ih =>
    rcases Nat.lt_or_ge n k with h | h
    · obtain rfl : k = n + 1 := by omega
      exact ⟨[], by simp, by simp⟩
    · obtain ⟨r, h1, h2⟩ := ih h
      refine ⟨r ++ brk n (viewAt skew l n (l.getD n dflt)) 0 5, ?_, ?_⟩
      · unfold findK at h1 ⊢
        rw [List.range_succ, List.flatMap_append, h1]
        simp
      · intro f hf
        rcases List.mem_append.1 hf with hf | hf
        · exact h2 f hf
        · unfold brk at hf
          simp only [List.mem_map] at hf
          obtain ⟨_, _, rfl⟩ := hf
          exact h
theorem brk_len (i : Nat) (v : View) (n : Nat) : (brk i v 0 n).length ≤ n := by
  unfold brk
  rw [List.length_map]
  exact Nat.le_trans (List.length_filter_le _ _) (by simp)
theorem findK_len (skew : Int) (l : List RowD) (k : Nat) : (findK skew l k).length ≤ 5 * k := by
  induction k with
  | zero => simp [findK]
  | succ k ih =>
    unfold findK at ih ⊢
    rw [List.range_succ, List.flatMap_append, List.length_append]
    have := brk_len k (viewAt skew l k (l.getD k dflt)) 5
    simp only [List.flatMap_cons, List.flatMap_nil, List.append_nil]
    omega
def nxt_ok (l : List RowD) : Prop := ∀ r ∈ l, RowOk r
structure VSOk (s : VS) : Prop where
  now : isI64 s.now
  live : isI64 s.live
  boot : isI64 s.boot
  acc : ∀ d ∈ s.acc, d.length = 32 ∧ ∀ b ∈ d, 0 ≤ b ∧ b ≤ 255
theorem vs0_ok : VSOk vs0 := ⟨by simp [vs0, isI64], by simp [vs0, isI64], by simp [vs0, isI64], fun d h => by simp [vs0] at h⟩
theorem nxt_vsok {s : VS} {r : RowD} (h : VSOk s) (hr : RowOk r) : VSOk (nxt s r) := by
  refine ⟨hr.now, hr.live, ?_, fun d hd => ?_⟩
  · simp only [nxt]; split
    · exact hr.now
    · exact h.boot
  · simp only [nxt] at hd
    split at hd
    · rcases List.mem_append.1 hd with hd | hd
      · exact h.acc d hd
      · obtain rfl : d = r.dig := by simpa using hd
        exact ⟨hr.dig, hr.bytes⟩
    · exact h.acc d hd
theorem stAt_ok {l : List RowD} (hok : ∀ r ∈ l, RowOk r) : ∀ k, k ≤ l.length → VSOk (stAt l k) := by
  intro k
  induction k with
  | zero => intro _; exact vs0_ok
  | succ k ih =>
    intro hk
    rw [stAt_succ l k (by omega)]
    exact nxt_vsok (ih (by omega)) (hok _ (List.getElem_mem _))
theorem view_ok {l : List RowD} (hok : ∀ r ∈ l, RowOk r) (skew : Int) (hs : isI64 skew) (k : Nat) (h : k < l.length) : ViewOk (viewAt skew l k l[k]) :=
  ⟨hok _ (List.getElem_mem _), hs, (stAt_ok hok k (by omega)).now, (stAt_ok hok k (by omega)).live, (stAt_ok hok k (by omega)).boot⟩
theorem stAt_acc_len (l : List RowD) : ∀ k, k ≤ l.length → (stAt l k).acc.length ≤ k := by
  intro k
  induction k with
  | zero => intro _; simp [stAt, vs0]
  | succ k ih =>
    intro hk
    rw [stAt_succ l k (by omega)]
    have := ih (by omega)
    simp only [nxt]
    split
    · simp; omega
    · omega
theorem stAt_first (l : List RowD) (k : Nat) (hk : k ≤ l.length) : (stAt l k).first = decide (k = 0) := by
  cases k with
  | zero => rfl
  | succ k => rw [stAt_succ l k (by omega)]; simp [nxt]
theorem stAt_prev (l : List RowD) (k : Nat) (hk : k < l.length) : (stAt l (k + 1)).now = l[k].now ∧ (stAt l (k + 1)).live = l[k].live := by
  rw [stAt_succ l k (by omega)]; exact ⟨rfl, rfl⟩
end Go.Proofs.YtmhckcghfikeiaaDoor
