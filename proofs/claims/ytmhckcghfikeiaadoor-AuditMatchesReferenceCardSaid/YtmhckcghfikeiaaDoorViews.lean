/- audit.views: the iterator over the views of a journal. -/
import Derived.Test.YtmhckcghfikeiaaDoorRules
import Derived.Test.YtmhckcghfikeiaaDoorVMap
import Derived.Test.YtmhckcghfikeiaaDoorIn
import Derived.Test.YtmhckcghfikeiaaDoorPart
import Derived.Test.YtmhckcghfikeiaaDoorArr
import Derived.Deep.Cut
namespace Go.Proofs.YtmhckcghfikeiaaDoor
open Go.RowKit
attribute [local irreducible] wpQuiet wpAnyH
set_option linter.unusedSimpArgs false

theorem at_row {w : World} {A : Option Addr} {cap : Nat} {l : List RowD} (h : Sn w 36 (.slice A l.length cap) l.length (l.flatMap rowC)) (hok : ∀ r ∈ l, RowOk r) (k : Nat) (hk : k < l.length) :
    ∃ b off, A = some ⟨b, off, none⟩ ∧ w.rangeAt b (off + k * 36) (rowC l[k]) := by
  obtain ⟨b, off, rfl, hr⟩ := h.range k hk
  rw [flatMap_piece rowC 36 l (fun x hx => rowC_length (hok x hx)) k hk] at hr
  exact ⟨b, off, rfl, hr⟩
theorem Lies.off {T : Terr} {g : Nat} {W W' : World} (h : Off g W W') (hg : ¬ T g) : Lies T W W' := ⟨h.os, h.tape, h.output, h.size, fun k hk ht => h.block k hk fun e => hg (e ▸ ht)⟩
theorem Turn.blk {T T' : Terr} {W W' : World} (h : Turn T W T' W') {g : Nat} {t : TypeId} {cs : Array Value} (hB : Blk W g t cs) (hg : ¬ T g) : Blk W' g t cs := (h.block g hB.lt hg).trans hB
theorem Lies.blk {T : Terr} {W W' : World} (h : Lies T W W') {g : Nat} {t : TypeId} {cs : Array Value} (hB : Blk W g t cs) (hg : T g) : Blk W' g t cs := (h.block g hB.lt hg).trans hB
theorem Sn.blocks {s n cap : Nat} {A : Option Addr} {xs : List Value} {W W' : World} (h : Sn W s (.slice A n cap) n xs) (hb : ∀ b off, A = some ⟨b, off, none⟩ → b < W.heap.size → W'.heap[b]? = W.heap[b]?) : Sn W' s (.slice A n cap) n xs := by
  obtain ⟨A', cap', hv, hc, hl, hx⟩ := h
  injection hv with hA _ hcp
  subst hA hcp
  refine ⟨_, _, rfl, hc, hl, fun hp => ?_⟩
  obtain ⟨b, off, rfl, hcell⟩ := hx hp
  refine ⟨b, off, rfl, fun j u hj => ?_⟩
  have h1 := hcell j u hj
  have h2 := hb b off rfl (cell_lt h1)
  unfold World.cell? at h1 ⊢
  rw [h2]; exact h1

def zrow : RowD := ⟨0, 0, 0, 0, List.replicate 32 0⟩
theorem zrow_ok : RowOk zrow := ⟨by simp [isI64, zrow], by simp [isI64, zrow], by simp [isI64, zrow], by simp [isI64, zrow], by simp [zrow], by simp [zrow]⟩
def accF (acc : List (List Int)) : List Int → Option Value := fun d => if acc.contains d then some (.bool true) else none
def boxV (skew : Int) (s : VS) (r : RowD) (rep : Bool) : View := ⟨r, skew, s.first, s.now, s.live, rep, s.booted, s.boot⟩
def vall (skew : Int) (l : List RowD) : List (Nat × View) := (List.range l.length).map fun i => (i, viewAt skew l i (l.getD i dflt))
def encV (x : Nat × View) : Array Value := #[.int .i64 x.1, .agg (viewC x.2).toArray]
theorem vall_len (skew : Int) (l : List RowD) : (vall skew l).length = l.length := by simp [vall]
theorem vall_get (skew : Int) (l : List RowD) (k : Nat) (h : k < l.length) : (vall skew l)[k]'(by rw [vall_len]; exact h) = (k, viewAt skew l k l[k]) := by
  simp [vall, List.getD_eq_getElem?_getD, List.getElem?_eq_getElem h]
theorem vall_take (skew : Int) (l : List RowD) (k : Nat) (h : k < l.length) : (vall skew l).take (k + 1) = (vall skew l).take k ++ [(k, viewAt skew l k l[k])] := by
  rw [List.take_succ_eq_append_getElem (by rw [vall_len]; exact h), vall_get skew l k h]
def vtail (v : View) : List Value := [.int .i64 v.skew, .bool v.first, .int .i64 v.now, .int .i64 v.live, .bool v.rep, .bool v.booted, .int .i64 v.boot]
theorem row_dig {w : World} {g off : Nat} {r : RowD} (h : w.rangeAt g off (rowC r)) : w.rangeAt g (off + 4) (u8s r.dig) := fun j u hj => by
  have := h (j + 4) u (by simpa [rowC] using hj)
  rw [show off + 4 + j = off + (j + 4) by omega]; exact this
theorem accF_snoc (acc : List (List Int)) (dig d : List Int) : vput (accF acc) dig (.bool true) d = accF (acc ++ [dig]) d := by
  unfold vput accF
  by_cases hd : d = dig
  · rw [if_pos hd, if_pos (by simp [hd])]
  · rw [if_neg hd]
    have : (acc ++ [dig]).contains d = acc.contains d := by simp [hd]
    rw [this]
/-- The stores at a round's end. -/
def boxEnd (bB : Nat) (r : RowD) (B : Bool) (w : World) : World :=
  (((if B then (w.setCell ⟨bB, 41, none⟩ (.bool true)).setCell ⟨bB, 42, none⟩ (.int .i64 r.now) else w).setCell ⟨bB, 37, none⟩ (.bool false)).setCell ⟨bB, 38, none⟩ (.int .i64 r.now)).setCell ⟨bB, 39, none⟩ (.int .i64 r.live)
theorem box_end {w : World} {bB : Nat} {t : TypeId} {skew : Int} {s : VS} {r : RowD} {rp : Bool} (hl : (rowC r).length = 36) (h : Blk w bB t (viewC (boxV skew s r rp)).toArray) :
    Blk (boxEnd bB r (isBoot r) w) bB t (viewC (boxV skew (nxt s r) r rp)).toArray ∧ Off bB w (boxEnd bB r (isBoot r) w) := by
  have hx : viewC (boxV skew s r rp) = rowC r ++ vtail (boxV skew s r rp) := rfl
  rw [hx] at h
  have hn : viewC (boxV skew (nxt s r) r rp) = rowC r ++ [.int .i64 skew, .bool false, .int .i64 r.now, .int .i64 r.live, .bool rp, .bool (s.booted || isBoot r), .int .i64 (if isBoot r then r.now else s.boot)] := rfl
  rw [hn]
  cases isBoot r with
  | true =>
    refine ⟨?_, (((((Off.refl bB w).set 41 _).set 42 _).set 37 _).set 38 _).set 39 _⟩
    have g1 := h.set_app 36 hl 5 (.bool true)
    have g2 := g1.set_app 36 hl 6 (.int .i64 r.now)
    have g3 := g2.set_app 36 hl 1 (.bool false)
    have g4 := g3.set_app 36 hl 2 (.int .i64 r.now)
    have g5 := g4.set_app 36 hl 3 (.int .i64 r.live)
    rw [Bool.or_true]
    exact g5
  | false =>
    refine ⟨?_, (((Off.refl bB w).set 37 _).set 38 _).set 39 _⟩
    have g3 := h.set_app 36 hl 1 (.bool false)
    have g4 := g3.set_app 36 hl 2 (.int .i64 r.now)
    have g5 := g4.set_app 36 hl 3 (.int .i64 r.live)
    rw [Bool.or_false]
    exact g5
/-- What the iterator keeps between two rounds. -/
structure VIt (mB bB : Nat) (A : Option Addr) (cap : Nat) (skew : Int) (l : List RowD) (k : Nat) (T : Terr) (w : World) : Prop where
  lt : mB < bB ∧ bB < w.heap.size
  rows : Sn w 36 (.slice A l.length cap) l.length (l.flatMap rowC)
  map : VM w mB k (accF (stAt l k).acc)
  box : ∃ r rep, RowOk r ∧ Blk w bB 70 (viewC (boxV skew (stAt l k) r rep)).toArray
  nT : (¬ T mB ∧ ¬ T bB) ∧ ∀ b off, A = some ⟨b, off, none⟩ → ¬ T b
  nb : ∀ b off, A = some ⟨b, off, none⟩ → b ≠ mB ∧ b ≠ bB
def XV (g1 g2 : Nat) (A : Option Addr) : Terr := fun k => k = g1 ∨ k = g2 ∨ ∃ b off, A = some ⟨b, off, none⟩ ∧ k = b

theorem rowC_one (r : RowD) : ∀ u ∈ rowC r, u.oneCell' = true := by
  intro v hv
  simp [rowC, u8s] at hv
  rcases hv with rfl | rfl | rfl | rfl | ⟨_, _, rfl⟩ <;> rfl
theorem viewC_one (v : View) : ∀ u ∈ viewC v, u.oneCell' = true := by
  intro u hu
  rcases List.mem_append.1 hu with h | h
  · exact rowC_one _ u h
  · simp only [List.mem_cons, List.not_mem_nil, or_false] at h
    rcases h with rfl | rfl | rfl | rfl | rfl | rfl | rfl <;> rfl

set_option maxRecDepth 100000 in
set_option maxHeartbeats 4000000 in
theorem views_seq (skew : Int) (l : List RowD) (A : Option Addr) (cap g1 g2 : Nat) (w : World) (h1 : Blk w g1 2 #[.int .i64 skew]) (h2 : Blk w g2 27 #[.slice A l.length cap])
    (hs : Sn w 36 (.slice A l.length cap) l.length (l.flatMap rowC)) (hok : ∀ r ∈ l, RowOk r) (hsk : isI64 skew) (hl : l.length ≤ 1000000) (hAl : ∀ b off, A = some ⟨b, off, none⟩ → b < w.heap.size) :
    SeqZ Fence.wide 9 Tryd.prog 32 #[.pointer (some ⟨g1, 0, none⟩), .pointer (some ⟨g2, 0, none⟩)] encV (XV g1 g2 A) (fun _ => False) (vall skew l) w := by
  intro ly J Jx T0 W hW hly1 hly2 hJ hJx hJT hY hT0 h0
  have hB1 := h1.keep hW
  have hB2 := h2.keep hW
  have hsW := hs.below hW
  have c1 := hB1.cell 0
  have c2 := hB2.cell 0
  simp only [List.getElem?_toArray, List.getElem?_cons_zero] at c1 c2
  have hmm := @run_makeMap Tryd.prog
  have HSW := Lib.hid hsW
  have HOK := Lib.hid hok
  have hT1 : ∀ b off, A = some ⟨b, off, none⟩ → ¬ T0 b := fun b off e ht => hT0 b ht (.inr (.inr ⟨b, off, e, rfl⟩))
  have HAL := Lib.hid hAl
  have hAlt : ∀ b off, A = some ⟨b, off, none⟩ → b < W.heap.size := fun b off e => Nat.lt_of_lt_of_le (hAl b off e) hW.size
  have HRL : Hid (∀ b off, A = some ⟨b, off, none⟩ → b < W.heap.size) := Lib.hid hAlt
  have hg1 : g1 < W.heap.size := hB1.lt
  have hg2 : g2 < W.heap.size := hB2.lt
  clear h1 h2 hs hB1 hB2 hsW hok hAlt hAl
  refine callsIn_of_wp Tryd.func32 rfl trivial ?_ rfl
  simp only [Tryd.ntmps32, List.size_toArray, List.length_cons, List.length_nil, Nat.reduceAdd, Nat.reduceSub, Array.replicate_succ, Array.replicate_zero, List.push_toArray, List.append_toArray, List.nil_append, List.cons_append]
  refine wpIn_wide.2 ?_
  have hbv : Tryd.prog.built 70 [(1, .int .i64 skew), (2, .bool true)] = some (viewC (boxV skew vs0 zrow false)).toArray := by kernel_rfl
  have HBV := Lib.hid hbv
  have hvl : (viewC (boxV skew vs0 zrow false)).length = 43 := viewC_length ⟨zrow_ok, hsk, by simp [boxV, vs0, isI64], by simp [boxV, vs0, isI64], by simp [boxV, vs0, isI64]⟩
  have hzv : ∀ w, (zeroValue 70).run Tryd.prog w = .ok (.agg (viewC (boxV 0 ⟨false, 0, 0, [], false, 0⟩ zrow false)).toArray) w := fun w => by kernel_rfl
  obtain ⟨V0, hV0⟩ : ∃ V0, V0 = viewC (boxV skew vs0 zrow false) := ⟨_, rfl⟩
  have hone : ∀ u ∈ V0, u.oneCell' = true := by rw [hV0]; exact viewC_one _
  rw [← hV0] at HBV hvl
  have HZV := Lib.hid hzv
  have HV0 := Lib.hid hV0
  have HVL := Lib.hid hvl
  have HON := Lib.hid hone
  clear hzv hbv hV0 hvl hone
  go_upto_region 1 with fail
  obtain ⟨W1, hW1⟩ : ∃ W1, W1 = W.alloc (.map #[] 0) := ⟨_, rfl⟩
  have hm1 : VM W1 W.heap.size 0 (fun _ => none) := by rw [hW1]; exact VM.made W
  have hs1 : W1.heap.size = W.heap.size + 1 := by rw [hW1]; simp
  have hb1 : Below W.heap.size W W1 := by rw [hW1]; exact bel1 W _
  have hL1 : ∀ T, Lies T W W1 := fun T => Lies.of_below hb1
  have c1' := Below.cell' hb1 c1
  have c2' := Below.cell' hb1 c2
  rw [← hW1]
  clear hW1 c1 c2
  have HM1 := Lib.hid hm1
  have HS1 := Lib.hid hs1
  have HSW1 := Lib.hid (HSW.out.below hb1)
  clear hm1 hs1 HSW hmm
  go_wp2_with (first
    | (refine bd 70 _ rfl rfl (by rfl) HBV.out ?_)
    | (refine al 70 _ rfl rfl HZV.out ?_)
    | (refine stNew 70 (.tmp 5) (.tmp 10) rfl rfl (by rfl) (by rfl) (by rw [List.size_toArray, HVL.out]; kernel_rfl) (by rw [List.size_toArray, List.size_toArray, HVL.out]; rfl) (all_oneCell_toArray HON.out) ?_; intro w2 hBl hb2 hs2; have c2'' := Below.cell' hb2 c2'; clear c1' c2'))
  have hTlt := hJT _ _ _ h0
  have HIT : Hid (VIt W.heap.size W1.heap.size A cap skew l 0 T0 w2) := Lib.hid (by
    have e1 := HS1.out
    refine ⟨⟨by omega, by omega⟩, HSW1.out.below hb2, ?_, ⟨zrow, false, zrow_ok, ?_⟩, ⟨⟨fun h => absurd (hTlt _ h) (by omega), fun h => absurd (hTlt _ h) (by omega)⟩, hT1⟩, fun b off e => ?_⟩
    · exact (HM1.out.keep hb2).congr fun d _ => by simp [stAt, vs0, accF]
    · rw [HV0.out] at hBl; exact hBl
    · have := HRL.out b off e
      omega)
  have HJ0 : Hid (J [] T0 w2) := Lib.hid (hJ _ _ _ _ h0 ((hL1 _).trans (Lies.of_below hb2)))
  have HS1' := Lib.hid (show W.heap.size ≤ W1.heap.size by have := HS1.out; omega)
  clear hBl hb2 hs2 c2'' HM1 HS1 HSW1 hL1 hb1 HBV HV0 HVL HON HZV h0 hTlt hT1 hg1 hg2 hW HRL
  have hzr : ∀ w, (zeroValue 49).run Tryd.prog w = .ok (.agg (rowC zrow).toArray) w := fun w => by kernel_rfl
  have HZR := Lib.hid hzr
  clear hzr
  obtain ⟨mB, hmB⟩ : ∃ n, n = W.heap.size := ⟨_, rfl⟩
  obtain ⟨bB, hbB⟩ : ∃ n, n = W1.heap.size := ⟨_, rfl⟩
  rw [← hmB, ← hbB] at HIT
  rw [← hmB, ← hbB]
  have HWm : Hid (W.heap.size ≤ mB ∧ W.heap.size ≤ bB) := Lib.hid (by rw [hmB, hbB]; have := HS1'.out; omega)
  clear hmB hbB HS1'
  go_loopw [13] (fun i wr => ∃ (k : Nat) (T : Terr), k ≤ l.length ∧ i = .int .i64 k ∧ Hid (J ((vall skew l).take k) T wr) ∧ Hid (VIt mB bB A cap skew l k T wr)) (fun i _ => l.length - (intOf i).toNat)
  case atStart => exact ⟨0, T0, Nat.zero_le _, rfl, HJ0, HIT⟩
  case round =>
    clear HJ0 HIT
    obtain ⟨k, T, hk, rfl, HJ, HI⟩ := hrel
    rcases Nat.lt_or_ge k l.length with hlt | hge
    · obtain ⟨b, off, eA, hrow⟩ := at_row HI.out.rows HOK.out k hlt
      obtain ⟨r, hr⟩ : ∃ r, r = l[k] := ⟨_, rfl⟩
      rw [← hr] at hrow
      have hro : RowOk r := by rw [hr]; exact HOK.out _ (List.getElem_mem _)
      have HR := Lib.hid hr
      have HRO := Lib.hid hro
      have HROW := Lib.hid hrow
      have hrl := rowC_length hro
      have HRL' := Lib.hid hrl
      obtain ⟨r0, rep0, hr0, hbx⟩ := HI.out.box
      have HBX := Lib.hid hbx
      have HR0 := Lib.hid (rowC_length hr0)
      have hi0 : (0 : Int) ≤ k := by omega
      have hi1 : (k : Int) < l.length := by omega
      clear hr hro hrow hrl hr0 hbx
      subst eA
      go_upto_region 5 with (first
        | (refine ld 49 _ rfl rfl rfl HROW.out Tryd.underlying49 rfl (by rw [HRL'.out]; kernel_rfl) ?_)
        | (refine al 49 _ rfl rfl HZR.out ?_)
        | (refine stNew 49 (.tmp 7) (.tmp 17) rfl rfl (by rfl) (by rfl) (by rw [List.size_toArray, HRL'.out]; kernel_rfl) (by rw [List.size_toArray, List.size_toArray, HRL'.out]; kernel_rfl) (all_oneCell_toArray (rowC_one _)) ?_; intro wA hBA hbA hsA))
      have hBA : Blk wA wr.heap.size 49 (rowC r).toArray := hBA
      have hrA := hBA.range
      rw [List.toList_toArray] at hrA
      have HBA := Lib.hid hBA
      have HRA := Lib.hid hrA
      have HBXA : Hid (Blk wA bB 70 ([] ++ rowC r0 ++ vtail (boxV skew (stAt l k) r0 rep0)).toArray) := Lib.hid (HBX.out.keep hbA)
      have HJA : Hid (J (List.take k (vall skew l)) T wA) := Lib.hid (hJ _ _ _ _ HJ.out (Lies.of_below hbA))
      have HIA := Lib.hid (And.intro (HI.out.rows.below hbA) (HI.out.map.keep hbA))
      have hne : wr.heap.size ≠ bB ∧ wr.heap.size ≠ mB := by have := HI.out.lt; omega
      have hszA : wr.heap.size ≤ wA.heap.size := hbA.size
      have HTL := Lib.hid (hJT _ _ _ HJ.out)
      clear hBA hrA hbA HROW HBX HJ
      go_upto_region 6 with (first
        | (refine ld 49 _ rfl rfl rfl HRA.out Tryd.underlying49 rfl (by rw [HRL'.out]; kernel_rfl) ?_)
        | (refine stPart (g := bB) 49 (.tmp 19) (.tmp 18) rfl rfl [] (rowC r0) (vtail (boxV skew (stAt l k) r0 rep0)) (rowC r) (by rfl) (by rfl) HBXA.out (by rw [HRL'.out]; kernel_rfl) (by rw [HR0.out, HRL'.out]) (rowC_one _) ?_; intro wB hBB hoB hsB))
      obtain ⟨rp, hrp⟩ : ∃ rp, rp = (stAt l k).acc.contains r.dig := ⟨_, rfl⟩
      have hBB : Blk wB bB 70 (rowC r ++ vtail (boxV skew (stAt l k) r0 rep0)).toArray := hBB
      have hmB := HIA.out.2.of_block (hoB.block mB HIA.out.2.lt (by have := HI.out.lt; omega))
      have hlk := VM.look1 (tM := 73) Tryd.underlying73 hmB (z := .bool false) (by kernel_rfl) (k := r.dig) ⟨HRO.out.dig, HRO.out.bytes⟩
      have hrv : ((accF (stAt l k).acc) r.dig).getD (.bool false) = .bool rp := by
        unfold accF
        rw [← hrp]
        cases rp <;> rfl
      rw [hrv] at hlk
      have HLK : Hid ((Instr.lookup 73 (.map (some mB)) (.agg (u8s r.dig).toArray) false).run Tryd.prog wB = .ok (.bool rp) wB) := Lib.hid hlk
      have hcv := hBB.cell 40
      have hfv := hBB.frozen 40
      have hcx : (rowC r ++ vtail (boxV skew (stAt l k) r0 rep0)).toArray[40]? = some (.bool rep0) := by
        rw [List.getElem?_toArray, List.getElem?_append_right (by rw [HRL'.out]; omega), HRL'.out]; rfl
      rw [hcx] at hcv
      have HRB : Hid (wB.rangeAt wr.heap.size (0 + 4) (u8s r.dig)) := Lib.hid (by
        have h1 := (hoB.blk HBA.out hne.1).range
        rw [List.toList_toArray] at h1
        exact row_dig h1)
      have hd32 : Hid ((u8s r.dig).length = 32) := Lib.hid (by rw [u8s_length, HRO.out.dig])
      have hlk2 := HLK.out
      have HRP := Lib.hid hrp
      clear hrv hcx hrp hlk HLK
      go_upto_region 7 with (first
        | (refine ld 47 _ rfl rfl rfl HRB.out Tryd.underlying47 rfl (by rw [hd32.out]; kernel_rfl) ?_))
      obtain ⟨wC, hwC⟩ : ∃ wC, wC = wB.setCell ⟨bB, 40, none⟩ (.bool rp) := ⟨_, rfl⟩
      have hoC : Off bB wA wC := by rw [hwC]; exact hoB.set 40 _
      have hBC : Blk wC bB 70 (viewC (boxV skew (stAt l k) r rp)).toArray := by
        have h1 := hBB.set_app 36 HRL'.out 4 (.bool rp)
        rw [hwC]; exact h1
      rw [← hwC]
      have hrC := hBC.range
      rw [List.toList_toArray] at hrC
      have HRC := Lib.hid hrC
      have hvok : ViewOk (boxV skew (stAt l k) r rp) := ⟨HRO.out, hsk, (stAt_ok HOK.out k (by omega)).now, (stAt_ok HOK.out k (by omega)).live, (stAt_ok HOK.out k (by omega)).boot⟩
      have HVO := Lib.hid hvok
      have HBC := Lib.hid hBC
      have hlts := HI.out.lt
      have hJC : J (List.take k (vall skew l)) T wC := hJ _ _ _ _ HJA.out (Lies.off hoC (fun h => h.elim HI.out.nT.1.2 (fun h => absurd h.1 (by have := HWm.out; omega))))
      have hpre : List.take k (vall skew l) ++ [(k, boxV skew (stAt l k) r rp)] <+: vall skew l := by
        have h1 := vall_take skew l k hlt
        have h2 : viewAt skew l k l[k] = boxV skew (stAt l k) r rp := by rw [HRP.out, HR.out]; rfl
        rw [h2] at h1
        rw [← h1]
        exact List.take_prefix _ _
      obtain ⟨fn, tmps, assign, body, hy, hR⟩ := hY _ _ T wC hpre hJC
      have hszC : wr.heap.size < wC.heap.size := by have := hoC.size; omega
      have HBAC := Lib.hid (hoC.blk HBA.out hne.1)
      have hmC := (HIA.out.2).of_block (hoC.block mB HIA.out.2.lt (by omega))
      have hsC : Sn wC 36 (.slice (some ⟨b, off, none⟩) l.length cap) l.length (l.flatMap rowC) := HIA.out.1.blocks (fun b' off' e hlt' => by
        have := HI.out.nb b' off' e
        exact hoC.block b' hlt' this.2)
      have HMC := Lib.hid hmC
      have HSC := Lib.hid hsC
      clear hwC hoC hBC hrC hvok hcv hfv hlk2 hBB hoB hsB hmB hmC hsC hJC HJA HBA HRA HBXA HIA HRB hsA hBA
      dsimp only [encV] at hy
      refine (wpIn_wide (n := 9)).1 ?_
      gi_wp2_with (refine iLd 70 _ rfl wide_fn rfl rfl HRC.out Tryd.underlying70 rfl (by rw [viewC_length HVO.out]; kernel_rfl) ?_)
      refine hR.mono ?_
      rintro e wD ⟨T', hT, ⟨rfl, hJD⟩ | ⟨rfl, hJD⟩⟩
      --TAIL--
      · have hnb : ¬ (T bB ∨ bB = ly) := fun h => h.elim HI.out.nT.1.2 (fun e => by have := HWm.out; omega)
        have hnm' : ¬ (T mB ∨ mB = ly) := fun h => h.elim HI.out.nT.1.1 (fun e => by have := HWm.out; omega)
        have hnr : ¬ (T wr.heap.size ∨ wr.heap.size = ly) := fun h => h.elim (fun h => absurd (HTL.out _ h) (by omega)) (fun e => by have := HWm.out; omega)
        have hBD := hT.blk HBC.out hnb
        have hRD := hT.blk HBAC.out hnr
        have hMD := HMC.out.of_block (hT.block mB HMC.out.lt hnm')
        have hSD : Sn wD 36 (.slice (some ⟨b, off, none⟩) l.length cap) l.length (l.flatMap rowC) := HSC.out.blocks (fun b' off' e hlt' => hT.block b' hlt' (fun h => h.elim (HI.out.nT.2 b' off' e) (fun e2 => by have := HAL.out b' off' e; omega)))
        have HSD := Lib.hid hSD
        have hT' : ¬ T' mB ∧ ¬ T' bB := ⟨fun h => (hT.sub _ h).elim hnm' (fun h => by omega), fun h => (hT.sub _ h).elim hnb (fun h => by omega)⟩
        have hTb : ∀ b' off', some (⟨b, off, none⟩ : Addr) = some ⟨b', off', none⟩ → ¬ T' b' := fun b' off' e h => (hT.sub _ h).elim (fun h => h.elim (HI.out.nT.2 b' off' e) (fun e2 => by have := HAL.out b' off' e; omega)) (fun h => by have h1 := HAL.out b' off' e; have h2 := HWm.out; omega)
        have hszD := hT.size
        have hnm : wr.heap.size ≠ mB ∧ bB ≠ mB := ⟨hne.2, by omega⟩
        have HTK : Hid (List.take (k + 1) (vall skew l) = List.take k (vall skew l) ++ [(k, boxV skew (stAt l k) r rp)]) := Lib.hid (by
          rw [vall_take skew l k hlt, HR.out, HRP.out, HR.out]; rfl)
        have HST : Hid (stAt l (k + 1) = nxt (stAt l k) r) := Lib.hid (by rw [stAt_succ l k hlt, HR.out])
        have p0 := hRD.cell 0
        have p1 := hRD.cell 1
        simp only [List.getElem?_toArray, rowC, List.getElem?_cons_zero, List.getElem?_cons_succ] at p0 p1
        have hrD := hRD.range
        rw [List.toList_toArray] at hrD
        have HDG : Hid (wD.rangeAt wr.heap.size (0 + 4) (u8s r.dig)) := Lib.hid (row_dig hrD)
        have hrb : (wr.heap.size ≠ bB) := hne.1
        clear hR hy hT hnb hnm' hnr hrD hpre hY HBC HBAC HMC HSC HRC hszC
        gi_wp2_with fail
        rcases Bool.eq_false_or_eq_true (r.kind == 3 && r.code == 10) with acc | acc
        · have a1 : (r.kind == 3) = true := by revert acc; cases r.kind == 3 <;> simp
          have a2 : (r.code == 10) = true := by revert acc; cases r.code == 10 <;> simp
          have HA := Lib.hid acc
          have HMD := Lib.hid hMD
          clear acc hMD
          go_upto_region 10 with (first
            | (refine ld 47 _ rfl rfl rfl HDG.out Tryd.underlying47 rfl (by rw [hd32.out]; kernel_rfl) ?_)
            | (refine vPut Tryd.underlying73 _ _ _ rfl rfl (by rfl) HMD.out ⟨HRO.out.dig, HRO.out.bytes⟩ (by rfl) (by rfl) (by unfold maxLen; omega) ?_; intro wE hME htE))
          have hoE : Off mB wD wE := Off.of_grown htE.grown
          have HME : Hid (VM wE mB (k + 1) (accF (stAt l (k + 1)).acc)) := Lib.hid ((show VM wE mB (k + 1) (vput (accF (stAt l k).acc) r.dig (.bool true)) from hME).congr fun d _ => by
            have hac : isAcc r = true := HA.out
            rw [HST.out, accF_snoc]
            unfold nxt
            rw [hac]
            rfl)
          clear htE hME p0 p1
          have hBE := hoE.blk hBD hnm.2
          have hRE := hoE.blk hRD hnm.1
          have q0 := hRE.cell 0
          have q1 := hRE.cell 1
          have q2 := hRE.cell 2
          have q3 := hRE.cell 3
          simp only [List.getElem?_toArray, rowC, List.getElem?_cons_zero, List.getElem?_cons_succ] at q0 q1 q2 q3
          have HVOV := HVO.out
          obtain ⟨_, _, _, _, _, b37, b38, b39, _, b41, b42⟩ := viewC_get _ HVO.out
          have d37 := hBE.cell 37
          have d38 := hBE.cell 38
          have d39 := hBE.cell 39
          have d41 := hBE.cell 41
          have d42 := hBE.cell 42
          rw [List.getElem?_toArray] at d37 d38 d39 d41 d42
          rw [b37] at d37
          rw [b38] at d38
          rw [b39] at d39
          rw [b41] at d41
          rw [b42] at d42
          have f37 := hBE.frozen 37
          have f38 := hBE.frozen 38
          have f39 := hBE.frozen 39
          have f41 := hBE.frozen 41
          have f42 := hBE.frozen 42
          obtain ⟨hEB, hEO⟩ := box_end HRL'.out hBE
          have hszE := hoE.size
          have HEB := Lib.hid hEB
          have HEO := Lib.hid hEO
          have HOE := Lib.hid hoE
          clear hBE hRE hoE b37 b38 b39 b41 b42 HVOV hEB hEO
          have HF : Hid (J (List.take (k + 1) (vall skew l)) T' (boxEnd bB r (isBoot r) wE) ∧ VIt mB bB (some ⟨b, off, none⟩) cap skew l (k + 1) T' (boxEnd bB r (isBoot r) wE)) := Lib.hid (by
            rw [HTK.out]
            refine ⟨hJ _ _ _ _ hJD ((Lies.off (T := fun x => T' x ∨ (x < W.heap.size ∧ ¬ (fun _ => False) x)) HOE.out (fun h => h.elim hT'.1 (fun h => absurd h.1 (by have := HWm.out; omega)))).trans (Lies.off (T := fun x => T' x ∨ (x < W.heap.size ∧ ¬ (fun _ => False) x)) HEO.out (fun h => h.elim hT'.2 (fun h => absurd h.1 (by have := HWm.out; omega))))), ⟨hlts.1, HEB.out.lt⟩, ?_, ?_, ⟨r, rp, HRO.out, ?_⟩, ⟨hT', hTb⟩, HI.out.nb⟩
            · refine HSD.out.blocks fun b' off' e hlt' => ?_
              have hn := HI.out.nb b' off' e
              exact (HEO.out.block b' (by omega) hn.2).trans (HOE.out.block b' hlt' hn.1)
            · exact HME.out.of_block (HEO.out.block mB HME.out.lt (by omega))
            · rw [HST.out]; exact HEB.out)
          have hBo : ∀ x y : Bool, (r.kind == 2) = x → (r.code == 0) = y → isBoot r = (x && y) := fun x y h1 h2 => by unfold isBoot; rw [h1, h2]
          have HBo := Lib.hid hBo
          clear hBo
          rcases Bool.eq_false_or_eq_true (r.kind == 2) with a3 | a3 <;> rcases Bool.eq_false_or_eq_true (r.code == 0) with a4 | a4
          all_goals
            have HF2 := HF.out
            rw [HBo.out _ _ a3 a4] at HF2
            have HF3 := Lib.hid HF2
            clear HF2
            go_wp2_with fail
            exact ⟨⟨k + 1, T', by omega, by go_num, Lib.hid HF3.out.1, Lib.hid HF3.out.2⟩, by simp [intOf]; omega⟩
        · have HA := Lib.hid acc
          have hm2 := hMD.mono (Nat.le_succ k)
          rcases Bool.eq_false_or_eq_true (r.kind == 3) with a1 | a1 <;> rcases Bool.eq_false_or_eq_true (r.code == 10) with a2 | a2
          · rw [a1, a2] at acc; cases acc
          all_goals
            clear acc hMD
            have HM2 := Lib.hid hm2
            clear hm2
            go_upto_region 10 with fail
            obtain ⟨wE, hwE⟩ : ∃ wE, wE = wD := ⟨_, rfl⟩
            have hoE : Off mB wD wE := by rw [hwE]; exact Off.refl _ _
            have HME : Hid (VM wE mB (k + 1) (accF (stAt l (k + 1)).acc)) := Lib.hid (by
              rw [hwE, HST.out]
              have hac : isAcc r = false := HA.out
              unfold nxt
              rw [hac]
              exact HM2.out)
            rw [← hwE]
            clear hwE p0 p1
            have hBE := hoE.blk hBD hnm.2
            have hRE := hoE.blk hRD hnm.1
            have q0 := hRE.cell 0
            have q1 := hRE.cell 1
            have q2 := hRE.cell 2
            have q3 := hRE.cell 3
            simp only [List.getElem?_toArray, rowC, List.getElem?_cons_zero, List.getElem?_cons_succ] at q0 q1 q2 q3
            have HVOV := HVO.out
            obtain ⟨_, _, _, _, _, b37, b38, b39, _, b41, b42⟩ := viewC_get _ HVO.out
            have d37 := hBE.cell 37
            have d38 := hBE.cell 38
            have d39 := hBE.cell 39
            have d41 := hBE.cell 41
            have d42 := hBE.cell 42
            rw [List.getElem?_toArray] at d37 d38 d39 d41 d42
            rw [b37] at d37
            rw [b38] at d38
            rw [b39] at d39
            rw [b41] at d41
            rw [b42] at d42
            have f37 := hBE.frozen 37
            have f38 := hBE.frozen 38
            have f39 := hBE.frozen 39
            have f41 := hBE.frozen 41
            have f42 := hBE.frozen 42
            obtain ⟨hEB, hEO⟩ := box_end HRL'.out hBE
            have hszE := hoE.size
            have HEB := Lib.hid hEB
            have HEO := Lib.hid hEO
            have HOE := Lib.hid hoE
            clear hBE hRE hoE b37 b38 b39 b41 b42 HVOV hEB hEO
            have HF : Hid (J (List.take (k + 1) (vall skew l)) T' (boxEnd bB r (isBoot r) wE) ∧ VIt mB bB (some ⟨b, off, none⟩) cap skew l (k + 1) T' (boxEnd bB r (isBoot r) wE)) := Lib.hid (by
              rw [HTK.out]
              refine ⟨hJ _ _ _ _ hJD ((Lies.off (T := fun x => T' x ∨ (x < W.heap.size ∧ ¬ (fun _ => False) x)) HOE.out (fun h => h.elim hT'.1 (fun h => absurd h.1 (by have := HWm.out; omega)))).trans (Lies.off (T := fun x => T' x ∨ (x < W.heap.size ∧ ¬ (fun _ => False) x)) HEO.out (fun h => h.elim hT'.2 (fun h => absurd h.1 (by have := HWm.out; omega))))), ⟨hlts.1, HEB.out.lt⟩, ?_, ?_, ⟨r, rp, HRO.out, ?_⟩, ⟨hT', hTb⟩, HI.out.nb⟩
              · refine HSD.out.blocks fun b' off' e hlt' => ?_
                have hn := HI.out.nb b' off' e
                exact (HEO.out.block b' (by omega) hn.2).trans (HOE.out.block b' hlt' hn.1)
              · exact HME.out.of_block (HEO.out.block mB HME.out.lt (by omega))
              · rw [HST.out]; exact HEB.out)
            have hBo : ∀ x y : Bool, (r.kind == 2) = x → (r.code == 0) = y → isBoot r = (x && y) := fun x y h1 h2 => by unfold isBoot; rw [h1, h2]
            have HBo := Lib.hid hBo
            clear hBo
            rcases Bool.eq_false_or_eq_true (r.kind == 2) with a3 | a3 <;> rcases Bool.eq_false_or_eq_true (r.code == 0) with a4 | a4
            all_goals
              have HF2 := HF.out
              rw [HBo.out _ _ a3 a4] at HF2
              have HF3 := Lib.hid HF2
              clear HF2
              go_wp2_with fail
              exact ⟨⟨k + 1, T', by omega, by go_num, Lib.hid HF3.out.1, Lib.hid HF3.out.2⟩, by simp [intOf]; omega⟩
      · gi_wp2_with fail
        go_wp2_with fail
        refine bodyPost_ret (results_none rfl _ _ _) rfl ?_
        refine ⟨⟨_, rfl⟩, T', .inr ⟨_, hpre, hJD⟩⟩
    · obtain rfl : k = l.length := by omega
      go_wp2_with fail
      go_end0
      refine ⟨⟨_, rfl⟩, T, .inl ?_⟩
      have := HJ.out
      rw [← vall_len skew l, List.take_length] at this
      exact this
end Go.Proofs.YtmhckcghfikeiaaDoor
