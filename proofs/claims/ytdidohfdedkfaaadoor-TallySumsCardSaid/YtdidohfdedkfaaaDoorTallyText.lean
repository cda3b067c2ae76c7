/- The texts of tallies and tables. -/
import Derived.Test.YtdidohfdedkfaaaDoorTallySum
import Derived.Test.YtdidohfdedkfaaaDoorTallyTable
import Derived.Test.YtdidohfdedkfaaaDoorBuilder
import Derived.Test.YtdidohfdedkfaaaDoorRefNames0
import Derived.Deep.RegionHeld3
namespace Go.Proofs.YtdidohfdedkfaaaDoor
open Go.RowKit

def textOf (a b : Nat) : ByteArray := itoaS a ++ ⟨#[32, 111, 102, 32]⟩ ++ itoaS ((a : Int) + b)

set_option maxHeartbeats 1000000 in
theorem text_any (a b : Nat) (w : World) (ht : Tab w) (h1 : a < 2 ^ 53) (h2 : b < 2 ^ 53) :
    Calls Tryd.prog 14 #[cx a b] w fun e w' => e = .returned (.string (textOf a b)) ∧ Below w.heap.size w w' := by
  have s1 := itoaS_size a (by omega) (by omega)
  have s2 := itoaS_size ((a : Int) + b) (by omega) (by omega)
  have b1 : (a : Int) ≤ 9007199254740992 := by omega
  have b2 : (b : Int) ≤ 9007199254740992 := by omega
  have H1 := Lib.hid h1
  have H2 := Lib.hid h2
  clear h1 h2
  go_enter Tryd.func14, Tryd.ntmps14
  go_wp2_with fail
  refine (split_any a b w H1.out H2.out).mono ?_
  rintro e w1 ⟨rfl, rfl⟩
  go_wp2_with fail
  refine (itoa_any a w ht (by omega) (by omega)).mono ?_
  rintro e w1 ⟨rfl, hb1⟩
  go_wp2_with fail
  refine (itoa_any ((a : Int) + b) w1 (ht.below hb1) (by omega) (by omega)).mono ?_
  rintro e w2 ⟨rfl, hb2⟩
  go_wp2_with fail
  go_ret
  exact ⟨rfl, bstep hb1 hb2⟩

set_option maxHeartbeats 1000000 in
theorem ref_text_any (a b : Nat) (w : World) (h1 : a < 2 ^ 53) (h2 : b < 2 ^ 53) :
    Calls Tryd.prog 15 #[.agg #[.int .i64 a, .int .i64 b]] w fun e w' => e = .returned (.string (textOf a b)) ∧ Below w.heap.size w w' := by
  have s1 := itoaS_size a (by omega) (by omega)
  have s2 := itoaS_size ((a : Int) + b) (by omega) (by omega)
  have b1 : (a : Int) ≤ 9007199254740992 := by omega
  have b2 : (b : Int) ≤ 9007199254740992 := by omega
  have e1 : IntKind.i64.wrap ((a : Int) + b) = (a : Int) + b := IntWalk.i64_in _ (by omega)
  clear h1 h2
  go_enter Tryd.func15, Tryd.ntmps15
  go_wp2_with fail
  go_quiet ((go_at_call 21; exact Calls.quiet_of (dec_any _ _ (by omega) (by omega))))
  go_wp2_with fail
  go_ret
  exact ⟨rfl, bdrewN (by repeat (first | exact Below.refl _ _ | assumption | refine bdrewN ?_ _ | refine Below.setCell ?_ (by first | exact Nat.le_refl _ | assumption | omega | (simp <;> omega)) _ | refine Below.alloc ?_ (by first | exact Nat.le_refl _ | assumption | omega | (simp <;> omega)) _)) _⟩

theorem textOf_size (a b : Nat) (h1 : a < 2 ^ 53) (h2 : b < 2 ^ 53) : (textOf a b).size ≤ 50 := by
  have s1 := itoaS_size a (by omega) (by omega)
  have s2 := itoaS_size ((a : Int) + b) (by omega) (by omega)
  unfold textOf
  rw [ByteArray.size_append, ByteArray.size_append]
  have : (⟨#[32, 111, 102, 32]⟩ : ByteArray).size = 4 := rfl
  omega

def line (c : Nat) (n : Nat) : List UInt8 := (nameOf c).data.toList ++ [32] ++ Lib.itoa n ++ [10]
def repL (l : List RowD) (k : Nat) : List UInt8 := (List.range k).flatMap fun (c : Nat) => if 0 < nCode l c then line c (nCode l c) else []
theorem repL_succ (l : List RowD) (k : Nat) : repL l (k + 1) = repL l k ++ (if 0 < nCode l k then line k (nCode l k) else []) := by
  unfold repL
  rw [List.range_succ, List.flatMap_append]
  simp
theorem ba_app (x y : ByteArray) : (x ++ y).data.toList = x.data.toList ++ y.data.toList := by simp
theorem ba_ext {x y : ByteArray} (h : x.data.toList = y.data.toList) : x = y := ByteArray.ext (Array.toList_inj.1 h)
def repAll (l : List RowD) : ByteArray := ⟨(repL l 11 ++ [97, 108, 108, 32] ++ (textOf (nAcc l) (nOth l)).data.toList ++ [10]).toArray⟩
theorem nameOf_size (c : Nat) (h : c ≤ 16) : (nameOf c).size ≤ 13 := by
  have key : ∀ i : Fin 17, (nameOf ((i : Nat) : Int)).size ≤ 13 := by decide +kernel
  exact key ⟨c, by omega⟩
theorem line_len (c n : Nat) (hc : c ≤ 16) (hn : n ≤ 1000) : (line c n).length ≤ 40 := by
  have h1 : (nameOf c).data.size ≤ 13 := nameOf_size c hc
  have h2 := itoa_len n (by omega) (by omega)
  simp only [line, List.length_append, List.length_cons, List.length_nil, Array.length_toList]
  omega
theorem repL_len (l : List RowD) (hl : l.length ≤ 1000) : ∀ k, k ≤ 11 → (repL l k).length ≤ 40 * k := by
  intro k
  induction k with
  | zero => intro _; simp [repL]
  | succ k ih =>
    intro hk
    rw [repL_succ, List.length_append]
    have := ih (by omega)
    have hn := nCode_le l (k : Nat)
    split
    · have := line_len k (nCode l k) (by omega) (by omega)
      omega
    · simp; omega

set_option maxHeartbeats 1000000 in
theorem ref_report_any (v : Value) (l : List RowD) (w : World) (hs : Sn w 36 v l.length (l.flatMap rowC)) (hok : ∀ r ∈ l, RowOk r) (hl : l.length ≤ 1000) :
    Calls Tryd.prog 17 #[v] w fun e w' => e = .returned (.string (repAll l)) ∧ Below w.heap.size w w' := by
  have HS := Lib.hid hs
  have HOK := Lib.hid hok
  clear hs hok
  go_enter Tryd.func17, Tryd.ntmps17
  go_wp2_with fail
  go_loopw [3, 4] (fun s i wr => ∃ k : Nat, k ≤ 11 ∧ i = .int .i64 k ∧ s = .string ⟨(repL l k).toArray⟩ ∧ Below w.heap.size w wr) (fun _ i _ => 12 - (intOf i).toNat)
  case atStart => exact ⟨0, Nat.zero_le _, rfl, by simp [repL], Below.refl _ _⟩
  case round =>
    obtain ⟨k, hk, rfl, rfl, hb⟩ := hrel
    rcases Nat.lt_or_ge k 11 with hlt | hge
    · have d1 : decide ((k : Int) ≤ 10) = true := by simp; omega
      have hn := nCode_le l (k : Nat)
      have hnb := Lib.hid hn
      have r1 := repL_len l hl k hk
      have r2 := nameOf_size k (by omega)
      have r3 := itoaS_size (nCode l k) (by omega) (by omega)
      have hrs := Lib.hid (repL_succ l k)
      by_cases hpos : 0 < nCode l k
      · have t1 : decide ((0 : Int) < nCode l k) = true := by simpa using hpos
        go_wp2_with fail
        refine (count_any v l k wr (HS.out.below hb) HOK.out hl).mono ?_
        rintro e w1 ⟨rfl, rfl⟩
        go_wp2_with fail
        refine (ref_name_any k wr).mono ?_
        rintro e w1 ⟨rfl, hb1⟩
        go_wp2_with fail
        refine (dec_any (nCode l k) w1 (by omega) (by omega)).mono ?_
        rintro e w2 ⟨rfl, d, rfl⟩
        go_wp2_with fail
        refine ⟨⟨k + 1, by omega, by go_num, ?_, bdrewN (bstep hb hb1) _⟩, by simp [intOf]; omega⟩
        rw [hrs.out, if_pos hpos]
        congr 1
        apply ba_ext
        simp [line, itoaS]
      · have t1 : decide ((0 : Int) < nCode l k) = false := by simpa using hpos
        go_wp2_with fail
        refine (count_any v l k wr (HS.out.below hb) HOK.out hl).mono ?_
        rintro e w1 ⟨rfl, rfl⟩
        go_wp2_with fail
        refine ⟨⟨k + 1, by omega, by go_num, ?_, hb⟩, by simp [intOf]; omega⟩
        rw [hrs.out, if_neg hpos, List.append_nil]
    · obtain rfl : k = 11 := by omega
      have r1 := repL_len l hl 11 hk
      have ba := nAcc_le l
      have r4 : (textOf (nAcc l) (nOth l)).size ≤ 50 := textOf_size _ _ (by omega) (by omega)
      go_wp2_with fail
      refine (ref_of_any v l wr (HS.out.below hb) HOK.out hl).mono ?_
      rintro e w1 ⟨rfl, hb1⟩
      go_wp2_with fail
      refine (ref_text_any (nAcc l) (nOth l) w1 (by omega) (by omega)).mono ?_
      rintro e w2 ⟨rfl, hb2⟩
      go_wp2_with fail
      go_ret
      exact ⟨ret_string (congrArg Value.string (ba_ext (by simp [repAll]))), bstep (bstep hb hb1) hb2⟩

theorem byteCells_append (x y : List UInt8) : Lib.byteCells (x ++ y) = Lib.byteCells x ++ Lib.byteCells y := by simp [Lib.byteCells]
theorem byteCells_str (x : List UInt8) (s : ByteArray) : Lib.byteCells x ++ Lib.strCells s = Lib.byteCells (x ++ s.data.toList) := by
  rw [byteCells_append]
  simp [Lib.byteCells, Lib.strCells]
theorem IsBuilder.keep {T e B b : Nat} {bs : List Value} {w w' : World} (h : Lib.IsBuilder T e B b bs w) (hb : Below w.heap.size w w') : Lib.IsBuilder T e B b bs w' := by
  have key : ∀ p, Lib.BuilderAt T e B b p bs w → Lib.BuilderAt T e B b p bs w' := by
    rintro p ⟨hB, v, hbk, hown, hne⟩
    have hlt : b < w.heap.size := by
      rcases Nat.lt_or_ge b w.heap.size with h' | h'
      · exact h'
      · simp [Array.getElem?_eq_none h'] at hbk
    exact ⟨hB, v, by rw [hb.block b hlt]; exact hbk, own_below hown hb, hne⟩
  rcases h with h | h
  · exact .inl (key _ h)
  · exact .inr (key _ h)

set_option maxRecDepth 100000 in
set_option maxHeartbeats 2000000 in
theorem report_any (v : Value) (l : List RowD) (w : World) (ht : Tab w) (hs : Sn w 36 v l.length (l.flatMap rowC)) (hok : ∀ r ∈ l, RowOk r) (hl : l.length ≤ 1000) :
    Calls Tryd.prog 16 #[v] w fun e w' => e = .returned (.string (repAll l)) ∧ Below w.heap.size w w' := by
  have HS := Lib.hid hs
  have HOK := Lib.hid hok
  have hsz := tbl_size l
  have h1 := tbl_one l
  clear hs hok
  go_enter Tryd.func16, Tryd.ntmps16
  go_wp2_with fail
  refine (table_any v l w HS.out HOK.out hl).mono ?_
  rintro e w1 ⟨rfl, hb1⟩
  go_wp2_with (refine stNew 26 (.tmp 3) (.tmp 7) rfl rfl rfl rfl (by rw [hsz]; kernel_rfl) (by rw [hsz]; rfl) h1 ?_; intro w2 hblk hb2 hsz2)
  have hI0 : Lib.IsBuilder 59 5 (w1.heap.size + 1) (w1.heap.size + 1) (Lib.byteCells (repL l 0)) (w2.alloc (.cells #[.pointer none, .slice none 0 0] 59)) := by
    have h := Lib.fresh_isBuilder 59 5 w2
    rw [hsz2] at h
    exact h
  have hbA : Below w.heap.size w w2 := bstep hb1 hb2
  have hbA' : Below w.heap.size w (w2.alloc (.cells #[.pointer none, .slice none 0 0] 59)) := hbA.alloc hbA.size _
  have ht0 : Tab (w2.alloc (.cells #[.pointer none, .slice none 0 0] 59)) := ht.below hbA'
  have htb : ∀ n, n ≤ 10 → (w2.alloc (.cells #[.pointer none, .slice none 0 0] 59)).cell? ⟨w1.heap.size, n, none⟩ = some (.int .i64 (nCode l n)) := by
    intro n hn
    have := cell_blk hblk n
    rw [tbl_get _ _ hn] at this
    exact (Below.cell (p := ⟨w1.heap.size, n, none⟩) ((Below.refl w2.heap.size w2).alloc (Nat.le_refl _) _) (by show w1.heap.size < _; omega)).trans this
  have hsA : (w2.alloc (.cells #[.pointer none, .slice none 0 0] 59)).heap.size = w1.heap.size + 2 := by
    show (w2.heap.push _).size = _
    rw [Array.size_push, hsz2]
  obtain ⟨wA, hwA⟩ : ∃ wA, wA = w2.alloc (.cells #[.pointer none, .slice none 0 0] 59) := ⟨_, rfl⟩
  rw [← hwA] at hI0 hbA' ht0 htb hsA ⊢
  clear hwA hblk hb2 hbA hsz2 h1 hsz
  have hsz1 := hb1.size
  go_loopw [8] (fun i wr => ∃ k : Nat, k ≤ 11 ∧ i = .int .i64 k ∧ Lib.IsBuilder 59 5 (w1.heap.size + 1) (w1.heap.size + 1) (Lib.byteCells (repL l k)) wr ∧ Below (w1.heap.size + 1) wA wr) (fun i _ => 12 - (intOf i).toNat)
  case atStart => exact ⟨0, Nat.zero_le _, rfl, hI0, Below.refl _ _⟩
  case round =>
    obtain ⟨k, hk, rfl, hI, hb⟩ := hrel
    have hszr := hb.size
    have hbW : Below w.heap.size w wr := hbA'.trans (hb.mono (by omega))
    have htr : Tab wr := ht.below hbW
    have hsv : Sn wr 36 v l.length (l.flatMap rowC) := HS.out.below hbW
    rcases Nat.lt_or_ge k 11 with hlt | hge
    · have hn := nCode_le l (k : Nat)
      have r1 := repL_len l hl k hk
      have r2 := nameOf_size k (by omega)
      have r3 := itoaS_size (nCode l k) (by omega) (by omega)
      have hrs := Lib.hid (repL_succ l k)
      have htk : wr.cell? ⟨w1.heap.size, k, none⟩ = some (.int .i64 (nCode l k)) := (hb.cell (p := ⟨w1.heap.size, k, none⟩) (by show w1.heap.size < _; omega)).trans (htb k (by omega))
      have hk0 : (0 : Int) ≤ k := by omega
      have hk1 : (k : Int) < 11 := by omega
      by_cases hpos : 0 < nCode l k
      · have t1 : decide ((0 : Int) < nCode l k) = true := by simpa using hpos
        go_wp2_with fail
        have hlen : (Lib.byteCells (repL l k)).length = (repL l k).length := by simp [Lib.byteCells]
        have htd : Tab wr.drew := htr.below (Below.refl _ _).drew
        have hId := IsBuilder.keep hI (Below.refl _ wr).drew
        have p1 : ¬ 9223372036854775807 < (nameOf k).size + 1 := by omega
        have p2 : ¬ 9223372036854775807 < (nameOf k).size + 1 + (itoaS (nCode l k)).size := by omega
        have p3 : ¬ 9223372036854775807 < (nameOf k).size + 1 + (itoaS (nCode l k)).size + 1 := by omega
        go_region_held3 (fun w' => w'.cell? ⟨w1.heap.size, k, none⟩ = some (.int .i64 (nCode l k)))
          (first
            | go_keep
            | exact (Below.cell (p := ⟨w1.heap.size, k, none⟩) (by assumption) (by first | (show w1.heap.size < wr.heap.size; omega) | (show w1.heap.size < _; omega))).trans (by assumption))
          ((first
            | (go_at_call 23; refine (name_any k _).mono ?_; rintro e wN ⟨rfl, hbN⟩; have hsN : wr.heap.size ≤ wN.heap.size := (by first | exact hbN.size | exact Nat.le_trans hsI hbN.size))
            | (go_at_call 20; go_loud (refine (itoa_any (nCode l k) _ (by first | exact htd.below hbN | exact htd) (by omega) (by omega)).mono ?_; rintro e wI ⟨rfl, hbI⟩); have hsI : wr.heap.size ≤ wI.heap.size := (by first | exact hbI.size | exact Nat.le_trans hsN hbI.size))
            | (go_at_call 22; refine (writeString_any (w1.heap.size + 1) (w1.heap.size + 1) (Lib.byteCells (repL l k)) _ _ (by first | exact IsBuilder.keep hId (bstep hbN hbI) | exact IsBuilder.keep hId (bstep hbI hbN)) (by have z1 : (⟨#[32]⟩ : ByteArray).size = 1 := rfl; have z2 : (⟨#[10]⟩ : ByteArray).size = 1 := rfl; simp only [ByteArray.size_append]; omega) (by omega)).mono ?_; rintro e wS ⟨rfl, hIS, hbS⟩)))
        all_goals
          have hbX : Below wr.drew.heap.size wr.drew wI := (by first | exact bstep hbN hbI | exact bstep hbI hbN)
          have hsd : wr.drew.heap.size = wr.heap.size := rfl
          have hbY : Below (w1.heap.size + 1) wA wS := (hb.drew.trans (hbX.mono (by omega))).trans hbS
          have hIE : Lib.byteCells (repL l k) ++ Lib.strCells (nameOf k ++ ⟨#[32]⟩ ++ itoaS (nCode l k) ++ ⟨#[10]⟩) = Lib.byteCells (repL l (k + 1)) := by
            rw [hrs.out, if_pos hpos, byteCells_str]
            exact congrArg Lib.byteCells (by simp [line, itoaS])
          rw [hIE] at hIS
          go_wp2_with fail
          exact ⟨⟨k + 1, by omega, by go_num, hIS, hbY⟩, by simp [intOf]; omega⟩
      · have t1 : decide ((0 : Int) < nCode l k) = false := by simpa using hpos
        go_wp2_with fail
        refine ⟨⟨k + 1, by omega, by go_num, ?_, hb⟩, by simp [intOf]; omega⟩
        rw [hrs.out, if_neg hpos, List.append_nil]
        exact hI
    · obtain rfl : k = 11 := by omega
      have r1 := repL_len l hl 11 hk
      have ba := nAcc_le l
      have r4 : (textOf (nAcc l) (nOth l)).size ≤ 50 := textOf_size _ _ (by omega) (by omega)
      go_wp2_with fail
      refine (of_any v l wr hsv HOK.out hl).mono ?_
      rintro e w3 ⟨rfl, hb3⟩
      go_wp2_with fail
      refine (text_any (nAcc l) (nOth l) w3 (htr.below hb3) (by omega) (by omega)).mono ?_
      rintro e w4 ⟨rfl, hb4⟩
      have hb34 := bstep hb3 hb4
      have hlen : (Lib.byteCells (repL l 11)).length = (repL l 11).length := by simp [Lib.byteCells]
      have hs34 := hb34.size
      go_wp2_with fail
      refine (writeString_any (w1.heap.size + 1) (w1.heap.size + 1) (Lib.byteCells (repL l 11)) _ w4 (IsBuilder.keep hI hb34) (by have z1 : (⟨#[97, 108, 108, 32]⟩ : ByteArray).size = 4 := rfl; have z2 : (⟨#[10]⟩ : ByteArray).size = 1 := rfl; simp only [ByteArray.size_append]; omega) (by omega)).mono ?_
      rintro e w5 ⟨rfl, hI5, hb5⟩
      rw [byteCells_str] at hI5
      have hs5 := hb5.size
      go_wp2_with fail
      refine (Tryd.Builder_String_any _ _ _ w5 hI5 (by omega)).mono ?_
      rintro e w6 ⟨rfl, hb6⟩
      go_wp2_with fail
      go_ret
      refine ⟨ret_string (congrArg Value.string (ba_ext (by simp [repAll]))), ?_⟩
      exact (((hbW.trans (hb34.mono (by omega)))).trans (hb5.mono (by omega))).trans (hb6.mono (by omega))
end Go.Proofs.YtdidohfdedkfaaaDoor
