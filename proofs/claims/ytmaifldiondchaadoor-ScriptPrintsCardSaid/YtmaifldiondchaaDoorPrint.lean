/- script.Print. -/
import Derived.Test.YtmaifldiondchaaDoorBuilder3
import Derived.Test.YtmaifldiondchaaDoorLine
import Derived.Test.YtmaifldiondchaaDoorPar3
namespace Go.Proofs.YtmaifldiondchaaDoor
open Go.RowKit
set_option linter.unusedSimpArgs false

theorem IsBuilder.keep {T e B b : Nat} {bs : List Value} {w w' : World} (h : Lib.IsBuilder T e B b bs w) (hb : Below w.heap.size w w') : Lib.IsBuilder T e B b bs w' := by
  have key : ∀ p, Lib.BuilderAt T e B b p bs w → Lib.BuilderAt T e B b p bs w' := by
    rintro p ⟨hB, v, hbk, hown, hne⟩
    have hlt : b < w.heap.size := by
      rcases Nat.lt_or_ge b w.heap.size with h' | h'
      · exact h'
      · simp [Array.getElem?_eq_none h'] at hbk
    exact ⟨hB, v, by rw [hb.block b hlt]; exact hbk, own_below hown hb, hne⟩
  rcases h with h | h
  · exact .inl (key _ h)
  · exact .inr (key _ h)
/-- An operation in memory. -/
structure OpR where
  o : OpD
  A : Option Addr
  ca : Nat
  B : Option Addr
  cb : Nat
def opC (x : OpR) : List Value := [.int .i64 x.o.kind, .int .i64 x.o.n, .slice x.A x.o.data.length x.ca, .slice x.B x.o.cuts.length x.cb]
def OpI (w : World) (x : OpR) : Prop := Sn w 1 (.slice x.A x.o.data.length x.ca) x.o.data.length (Lib.byteCells x.o.data) ∧ Sn w 1 (.slice x.B x.o.cuts.length x.cb) x.o.cuts.length (intC x.o.cuts)
theorem OpI.below {w w' : World} {x : OpR} (h : OpI w x) (hb : Below w.heap.size w w') : OpI w' x := ⟨h.1.below hb, h.2.below hb⟩
theorem opC_one (x : OpR) : ∀ u ∈ opC x, u.oneCell' = true := by
  intro u hu
  simp only [opC, List.mem_cons, List.not_mem_nil, or_false] at hu
  rcases hu with rfl | rfl | rfl | rfl <;> rfl
theorem at_op {w : World} {A : Option Addr} {cap : Nat} {l : List OpR} (h : Sn w 4 (.slice A l.length cap) l.length (l.flatMap opC)) (k : Nat) (hk : k < l.length) :
    ∃ b off, A = some ⟨b, off, none⟩ ∧ w.rangeAt b (off + k * 4) (opC l[k]) := by
  obtain ⟨b, off, rfl, hr⟩ := h.range k hk
  rw [flatMap_piece opC 4 l (fun _ _ => rfl) k hk] at hr
  exact ⟨b, off, rfl, hr⟩
def opsOf (l : List OpR) : List OpD := l.map OpR.o
theorem printT_snoc (l : List OpR) (k : Nat) (h : k < l.length) : printT (opsOf (l.take (k + 1))) = printT (opsOf (l.take k)) ++ lineB l[k].o ++ [10] := by
  unfold printT opsOf
  rw [List.take_succ_eq_append_getElem h, List.map_append, List.flatMap_append]
  simp
def printR (l : List OpD) : Bs × Bool := if l.all rightB then (printT l, true) else ([], false)

set_option maxRecDepth 100000 in
set_option maxHeartbeats 4000000 in
theorem print_any (l : List OpR) (A : Option Addr) (cap : Nat) (w : World) (ht : Tab w) (hs : Sn w 4 (.slice A l.length cap) l.length (l.flatMap opC)) (hin : ∀ x ∈ l, OpI w x) (hd : ∀ x ∈ l, x.o.data.length ≤ 100000 ∧ x.o.cuts.length ≤ 100000) (hl : l.length ≤ 1000) (hlen : ∀ k, (printT (opsOf (l.take k))).length ≤ 1000000000) (hlin : ∀ x ∈ l, (lineB x.o).length ≤ 1000000000) :
    Calls Tryd.prog 16 #[.slice A l.length cap] w fun e w' => e = .returned (.tuple #[.string (SB (printR (opsOf l)).1), .bool (printR (opsOf l)).2]) ∧ Below w.heap.size w w' := by
  have HT := Lib.hid ht
  have HS := Lib.hid hs
  have HIN := Lib.hid hin
  have HD := Lib.hid hd
  have HLEN := Lib.hid hlen
  have HLIN := Lib.hid hlin
  clear ht hs hin hd hlen hlin
  have hzr : ∀ w, (zeroValue 26).run Tryd.prog w = .ok (.agg opZ) w := fun w => by kernel_rfl
  have HZR := Lib.hid hzr
  clear hzr
  go_enter Tryd.func16, Tryd.ntmps16
  go_wp2_with fail
  go_loopw [10] (fun i wr => ∃ k : Nat, k ≤ l.length ∧ i = .int .i64 k ∧ Hid (Lib.IsBuilder 61 5 w.heap.size w.heap.size (Lib.byteCells (printT (opsOf (l.take k)))) wr) ∧ Hid (Below w.heap.size w wr) ∧ Hid ((opsOf (l.take k)).all rightB = true)) (fun i _ => l.length - (intOf i).toNat)
  case atStart => exact ⟨0, Nat.zero_le _, rfl, Lib.hid (Lib.fresh_isBuilder 61 5 w), Lib.hid (bel1 _ _), Lib.hid rfl⟩
  case round =>
    obtain ⟨k, hk, rfl, HI, HB, HA⟩ := hrel
    have hszr := HB.out.size
    rcases Nat.lt_or_ge k l.length with hlt | hge
    · obtain ⟨b, off, eA, hrow⟩ := at_op (HS.out.below HB.out) k hlt
      subst eA
      have hmem := List.getElem_mem hlt
      have HSN := Lib.hid (printT_snoc l k hlt)
      have hx0 := HIN.out _ hmem
      have hx1 := HD.out _ hmem
      have hx2 := HLIN.out _ hmem
      have hle := HLEN.out k
      have hln := HLEN.out (k + 1)
      rw [HSN.out] at hln
      simp only [List.length_append, List.length_cons, List.length_nil] at hln
      obtain ⟨x, hx⟩ : ∃ x, x = l[k] := ⟨_, rfl⟩
      rw [← hx] at hrow HSN hx0 hx1 hx2 hln
      have HALL : Hid ((opsOf (l.take (k + 1))).all rightB = rightB x.o) := Lib.hid (by
        have h := HA.out
        unfold opsOf at h ⊢
        rw [List.take_succ_eq_append_getElem hlt, List.map_append, List.all_append, h, ← hx]
        simp)
      have HBAD : Hid (rightB x.o = false → printR (opsOf l) = ([], false)) := Lib.hid (fun hr => by
        unfold printR
        rw [if_neg]
        intro h
        have := List.all_eq_true.1 h x.o (List.mem_map.2 ⟨x, by rw [hx]; exact hmem, rfl⟩)
        rw [hr] at this
        cases this)
      have HROW := Lib.hid hrow
      have HX0 := Lib.hid hx0
      clear hx hrow hx0 hmem
      obtain ⟨⟨kk, nn, dd, cc⟩, xA, xca, xB, xcb⟩ := x
      have hi0 : (0 : Int) ≤ k := by omega
      have hi1 : (k : Int) < l.length := by omega
      have HLC : Hid (∀ w1, Below wr.heap.size wr w1 → Calls Tryd.prog 12 #[.agg #[.int .i64 kk, .int .i64 nn, .slice xA dd.length xca, .slice xB cc.length xcb]] w1 fun e w' => e = .returned (.string (SB (lineB ⟨kk, nn, dd, cc⟩))) ∧ Below w1.heap.size w1 w') := Lib.hid (fun w1 hb => line_any kk nn dd cc xA xB xca xcb w1 (HT.out.below (bstep HB.out hb)) (HX0.out.1.below (bstep HB.out hb)) (HX0.out.2.below (bstep HB.out hb)) (by have := hx1.1; simp at this; omega) (by have := hx1.2; simp at this; omega))
      have hem := line_empty ⟨kk, nn, dd, cc⟩
      obtain ⟨L, hL⟩ : ∃ L, L = lineB ⟨kk, nn, dd, cc⟩ := ⟨_, rfl⟩
      rw [← hL] at HLC hem hx2 hln
      have HL := Lib.hid hL
      have hisE : (SB L).toList.isEmpty = L.isEmpty := by rw [ByteArray.toList_eq, SB_list]
      rw [hem] at hisE
      clear hL hem
      rcases Bool.eq_false_or_eq_true (rightB ⟨kk, nn, dd, cc⟩) with hr | hr
      · rw [hr] at HALL hisE
        have HSB := Lib.hid (SB_size L)
        obtain ⟨S, hS⟩ : ∃ S, S = SB L := ⟨_, rfl⟩
        rw [← hS] at HLC hisE
        have HSe := Lib.hid hS
        clear hr hS HBAD
        go_wp2_with (first
          | (refine ld 26 (.tmp 12) rfl rfl (by rfl) HROW.out Tryd.underlying26 rfl (by kernel_rfl) ?_)
          | (refine al 26 _ rfl rfl HZR.out ?_)
          | (refine stNew 26 (.tmp 6) (.tmp 13) rfl rfl (by rfl) (by rfl) (by kernel_rfl) (by rfl) (opRow_one _ _ _ _ _ _ _ _) ?_; intro wN hBN hbN hzN; have HBN : Hid (wN.rangeAt wr.heap.size 0 [.int .i64 kk, .int .i64 nn, .slice xA dd.length xca, .slice xB cc.length xcb]) := Lib.hid (Blk.range hBN); have HbN := Lib.hid hbN; clear hBN hzN hbN)
          | (refine ld 26 (.tmp 6) rfl rfl (by rfl) HBN.out Tryd.underlying26 rfl (by kernel_rfl) ?_)
          | (go_at_call 12; refine (HLC.out _ HbN.out).mono ?_; rintro e w3 ⟨rfl, hb3⟩; have HB3 := Lib.hid (bstep HbN.out hb3); have hs3 := HB3.out.size; clear hb3)
          | (go_at_call 33; refine (writeString_any w.heap.size w.heap.size _ S _ (IsBuilder.keep HI.out HB3.out) (by rw [byteCells_length, HSe.out, SB_size]; omega) (by omega)).mono ?_; rintro e w4 ⟨rfl, hi4, hb4⟩; have HI4 : Hid (Lib.IsBuilder 61 5 w.heap.size w.heap.size (Lib.byteCells (printT (opsOf (l.take k)) ++ L)) w4) := Lib.hid (by rw [byteCells_append]; rw [HSe.out] at hi4; exact hi4); have HB4 := Lib.hid (HB.out.trans ((HB3.out.mono hszr).trans hb4)); have hs4 := HB4.out.size; clear hi4 hb4)
          | (go_at_call 34; refine (writeByte_any w.heap.size w.heap.size (printT (opsOf (l.take k)) ++ L) 10 _ HI4.out (by rw [List.length_append]; omega) (by omega)).mono ?_; rintro e w5 ⟨rfl, hi5, hb5⟩; have HI5 := Lib.hid hi5; have HB5 := Lib.hid (HB4.out.trans hb5); clear hi5 hb5))
        exact ⟨⟨k + 1, hlt, by go_num, Lib.hid (by rw [HSN.out, ← HL.out]; exact HI5.out), HB5, HALL⟩, by simp [intOf]; omega⟩
      · rw [hr] at hisE
        have HF := Lib.hid (HBAD.out hr)
        obtain ⟨S, hS⟩ : ∃ S, S = SB L := ⟨_, rfl⟩
        rw [← hS] at HLC hisE
        clear hr hS HBAD
        go_wp2_with (first
          | (refine ld 26 (.tmp 12) rfl rfl (by rfl) HROW.out Tryd.underlying26 rfl (by kernel_rfl) ?_)
          | (refine al 26 _ rfl rfl HZR.out ?_)
          | (refine stNew 26 (.tmp 6) (.tmp 13) rfl rfl (by rfl) (by rfl) (by kernel_rfl) (by rfl) (opRow_one _ _ _ _ _ _ _ _) ?_; intro wN hBN hbN hzN; have HBN : Hid (wN.rangeAt wr.heap.size 0 [.int .i64 kk, .int .i64 nn, .slice xA dd.length xca, .slice xB cc.length xcb]) := Lib.hid (Blk.range hBN); have HbN := Lib.hid hbN; clear hBN hzN hbN)
          | (refine ld 26 (.tmp 6) rfl rfl (by rfl) HBN.out Tryd.underlying26 rfl (by kernel_rfl) ?_)
          | (go_at_call 12; refine (HLC.out _ HbN.out).mono ?_; rintro e w3 ⟨rfl, hb3⟩; have HB3 := Lib.hid (bstep HbN.out hb3); clear hb3))
        go_ret2
        exact ⟨by rw [HF.out]; rfl, bstep HB.out HB3.out⟩
    · obtain rfl : k = l.length := by omega
      rw [List.take_length] at HI HA
      have HF : Hid (printR (opsOf l) = (printT (opsOf l), true)) := Lib.hid (by unfold printR; rw [if_pos HA.out])
      go_wp2_with (go_at_call 35; refine (Tryd.Builder_String_any w.heap.size w.heap.size (printT (opsOf l)) _ HI.out hszr).mono ?_; rintro e w3 ⟨rfl, hb3⟩; have HB3 := Lib.hid (HB.out.trans hb3); clear hb3)
      go_ret2
      exact ⟨by rw [HF.out]; rfl, HB3.out⟩
end Go.Proofs.YtmaifldiondchaaDoor
