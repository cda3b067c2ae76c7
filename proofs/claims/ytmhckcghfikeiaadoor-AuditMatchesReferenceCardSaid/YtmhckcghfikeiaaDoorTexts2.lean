/- audit.Text. -/
import Derived.Test.YtmhckcghfikeiaaDoorTexts
namespace Go.Proofs.YtmhckcghfikeiaaDoor
open Go.RowKit
attribute [local irreducible] wpQuiet wpAnyH
set_option linter.unusedSimpArgs false

def tfC (f : ByteArray × Int) : List Value := [.string f.1, .int .i64 f.2]
theorem tfC_one (f : ByteArray × Int) : ∀ u ∈ tfC f, u.oneCell' = true := by
  intro u hu
  simp [tfC] at hu
  rcases hu with rfl | rfl <;> rfl
def TfOk (f : ByteArray × Int) : Prop := f.1.size ≤ 1000 ∧ isI64 f.2
def lineT (f : ByteArray × Int) : List UInt8 := f.1.data.toList ++ [32] ++ Lib.itoa f.2 ++ [10]
def textL (fs : List (ByteArray × Int)) : List UInt8 := fs.flatMap lineT
def textS (fs : List (ByteArray × Int)) : ByteArray := ⟨(textL fs).toArray⟩
theorem textL_snoc (fs : List (ByteArray × Int)) (k : Nat) (h : k < fs.length) : textL (fs.take (k + 1)) = textL (fs.take k) ++ lineT fs[k] := by
  unfold textL
  rw [List.take_succ_eq_append_getElem h, List.flatMap_append]
  simp
theorem own_ne {w : World} {base e s n : Nat} {v : Value} {xs : List Value} {g t : Nat} {cs : Array Value} (h : w.ownsRow base e s v n xs) (hB : Blk w g t cs) (hte : t ≠ e) : some g ≠ v.ownBlock := by
  intro he
  rcases h.2 with ⟨rfl, _⟩ | ⟨g', cap, cur, rfl, _, hh, _⟩
  · cases he
  · have : g = g' := Option.some.inj he
    subst this
    unfold Blk at hB
    rw [hB] at hh
    injection hh with hh
    injection hh with _ h2 _
    exact hte h2
theorem lineT_len (f : ByteArray × Int) (h : TfOk f) : (lineT f).length ≤ 1022 := by
  have h1 := itoa_len f.2 h.2.1 h.2.2
  have h2 : f.1.data.toList.length = f.1.size := by rw [Array.length_toList]; rfl
  have h3 := h.1
  simp only [lineT, List.length_append, List.length_cons, List.length_nil, h2]
  omega
theorem textL_len (fs : List (ByteArray × Int)) (h : ∀ f ∈ fs, TfOk f) : (textL fs).length ≤ 1022 * fs.length := by
  induction fs with
  | nil => simp [textL]
  | cons f fs ih =>
    have h1 := lineT_len f (h f (by simp))
    have h2 := ih (fun g hg => h g (by simp [hg]))
    unfold textL at h2 ⊢
    rw [List.flatMap_cons, List.length_append, List.length_cons]
    omega
theorem at_tf {w : World} {A : Option Addr} {cap : Nat} {l : List (ByteArray × Int)} (h : Sn w 2 (.slice A l.length cap) l.length (l.flatMap tfC)) (k : Nat) (hk : k < l.length) :
    ∃ b off, A = some ⟨b, off, none⟩ ∧ w.rangeAt b (off + k * 2) (tfC l[k]) := by
  obtain ⟨b, off, rfl, hr⟩ := h.range k hk
  rw [flatMap_piece tfC 2 l (fun _ _ => rfl) k hk] at hr
  exact ⟨b, off, rfl, hr⟩
theorem tabBelow {w : World} (h : Tab w) : Lib.TabBelow Tryd.prog w.heap.size w "internal/strconv.uint64pow10" .u64 Lib.pow10Tab := fun _ hb => h.below hb
theorem byteCells_one (l : List UInt8) : ∀ u ∈ Lib.byteCells l, u.oneCell' = true := by
  intro u hu
  simp only [Lib.byteCells, List.mem_map] at hu
  obtain ⟨_, _, rfl⟩ := hu
  rfl
theorem byteCells_append (x y : List UInt8) : Lib.byteCells (x ++ y) = Lib.byteCells x ++ Lib.byteCells y := by simp [Lib.byteCells]
theorem strCells_bytes (s : ByteArray) : Lib.strCells s = Lib.byteCells s.data.toList := by simp [Lib.byteCells, Lib.strCells]
/-- append of a string onto bytes of the call's own. -/
theorem appS {ops : Array Oper} {rest : List Oper} {o : Oper} {a : Act} {w : World} {Q : Exit → Act → World → Prop} (sl x : Operand)
    (ho : o.op = .call { callee := .builtin .append, args := #[sl, x], argTypes := #[57, 9] }) (hgd : o.guard = none)
    {base n : Nat} {v : Value} {l : List UInt8} {s : ByteArray} (hs : a.eval sl = v) (hown : w.ownsRow base 5 1 v n (Lib.byteCells l)) (hx : a.eval x = .string s)
    (hsz : n + s.size ≤ 140737488355328) (hbase : base ≤ w.heap.size)
    (h : ∀ v' w', w'.ownsRow base 5 1 v' (n + s.size) (Lib.byteCells (l ++ s.data.toList)) → w.grownBy w' v.ownBlock → wpList Tryd.prog ops Q rest (a.put o.dst v') w') : wpList Tryd.prog ops Q (o :: rest) a w := by
  have hI : (Tryd.prog.info? 5).map (fun i => (i.zero, i.size, i.bytes)) = some (some (.int .u8 0), 1, 1) := by kernel_rfl
  obtain ⟨i, h1, h2, h3, h4⟩ := info_parts hI
  refine Lib.wpList_append_own_string w hgd sl x 57 9 ho base 5 i Tryd.underlying57 Tryd.underlying9 h1 h2 h3 h4 v n _ hs hown s hx (by unfold maxLen; omega) hsz hbase ?_
  intro v' w' h5 h6 _
  rw [strCells_bytes, ← byteCells_append] at h5
  exact h v' w' h5 h6

set_option maxRecDepth 100000 in
set_option maxHeartbeats 4000000 in
theorem text_any (fs : List (ByteArray × Int)) (A : Option Addr) (cap : Nat) (w : World) (ht : Tab w) (hs : Sn w 2 (.slice A fs.length cap) fs.length (fs.flatMap tfC)) (hok : ∀ f ∈ fs, TfOk f) (hl : fs.length ≤ 100000) :
    Calls Tryd.prog 13 #[.slice A fs.length cap] w fun e w' => e = .returned (.string (textS fs)) ∧ Below w.heap.size w w' := by
  have HS := Lib.hid hs
  have HOK := Lib.hid hok
  have HT := Lib.hid (tabBelow ht)
  clear hs hok ht
  have hzr : ∀ w, (zeroValue 34).run Tryd.prog w = .ok (.agg #[.string ByteArray.empty, .int .i64 0]) w := fun w => by kernel_rfl
  have HZR := Lib.hid hzr
  clear hzr
  go_enter Tryd.func13, Tryd.ntmps13
  go_wp2_with fail
  go_loopw [3, 8] (fun m i wr => ∃ k : Nat, k ≤ fs.length ∧ i = .int .i64 k ∧ Hid (wr.ownsRow w.heap.size 5 1 m (textL (fs.take k)).length (Lib.byteCells (textL (fs.take k)))) ∧ Hid (Below w.heap.size w wr)) (fun _ i _ => fs.length - (intOf i).toNat)
  case atStart => exact ⟨0, Nat.zero_le _, rfl, Lib.hid (World.ownsRow_nil _ _ _ _), Lib.hid (Below.refl _ _)⟩
  case round =>
    obtain ⟨k, hk, rfl, HO, HB⟩ := hrel
    have hlen : (textL (fs.take k)).length ≤ 1022 * 100000 := by
      have h1 := textL_len (fs.take k) (fun f hf => HOK.out f (List.mem_of_mem_take hf))
      rw [List.length_take] at h1
      omega
    obtain ⟨L, hL⟩ : ∃ L, L = textL (fs.take k) := ⟨_, rfl⟩
    rw [← hL] at HO hlen
    rcases Nat.lt_or_ge k fs.length with hlt | hge
    · obtain ⟨b, off, eA, hrow⟩ := at_tf (HS.out.below HB.out) k hlt
      subst eA
      obtain ⟨f, hf⟩ : ∃ f, f = fs[k] := ⟨_, rfl⟩
      rw [← hf] at hrow
      have hfo : TfOk f := by rw [hf]; exact HOK.out _ (List.getElem_mem _)
      have hfs : f.1.size ≤ 1000 := hfo.1
      have HFO := Lib.hid hfo
      have HROW := Lib.hid hrow
      have HSN := Lib.hid (textL_snoc fs k hlt)
      have HF := Lib.hid hf
      have HL := Lib.hid hL
      have hi0 : (0 : Int) ≤ k := by omega
      have hi1 : (k : Int) < fs.length := by omega
      have hszr := HB.out.size
      have hit := itoa_len f.2 hfo.2.1 hfo.2.2
      clear hf hfo hrow hL
      go_wp2_with (first
        | (refine ld 34 (.tmp 10) rfl rfl (by rfl) HROW.out Tryd.underlying34 rfl (by kernel_rfl) ?_)
        | (refine al 34 _ rfl rfl HZR.out ?_)
        | (refine stNew 34 (.tmp 5) (.tmp 11) rfl rfl (by rfl) (by rfl) (by kernel_rfl) (by rfl) (all_oneCell_toArray (tfC_one f)) ?_; intro wN hBN hbN hzN; have hBN : Blk wN wr.heap.size 34 (tfC f).toArray := hBN; have HBk := Lib.hid hBN; have c0 := hBN.cell 0; simp only [List.getElem?_toArray, tfC, List.getElem?_cons_zero] at c0; have HON := Lib.hid (own_below HO.out hbN); have HBN := Lib.hid (HB.out.trans (hbN.mono hszr)); have hszN := HBN.out.size; clear hBN hzN)
        | (at_builtin; refine appS (.tmp 12) (.tmp 14) rfl rfl (by rfl) HON.out (by rfl) (by omega) hszN ?_; intro v1 w1 hown hgrow; have HO1 := Lib.hid hown; have HB1 := Lib.hid (HBN.out.grown hgrow hszN (fun g hg => (HON.out.lt g hg).1)); have HBk1 := Lib.hid (show Blk w1 wr.heap.size 34 (tfC f).toArray from (hgrow.block wr.heap.size (HBk.out.lt) (own_ne HON.out HBk.out (by decide))).trans HBk.out); have hsz1 := HB1.out.size; clear hown hgrow)
        | (at_builtin; refine app tByt (.tmp 16) (.tmp 17) rfl rfl (by rfl) (HO1.out.alloc _) (by rfl) (Sn.new w1 (Lib.byteCells [32]).toArray 5 1 1 rfl) (byteCells_one [32]) (by unfold maxLen; omega) (by omega) (by simp; omega) ?_; intro v2 w2 hown hgrow hblk; rw [List.toList_toArray, ← byteCells_append] at hown; have HO2 := Lib.hid hown; have HB2 := Lib.hid ((HB1.out.alloc hsz1 _).grown hgrow (by simp; omega) (fun g hg => (HO1.out.lt g hg).1)); have HBk2 := Lib.hid (show Blk w2 wr.heap.size 34 (tfC f).toArray from (hgrow.block wr.heap.size (by have := HBk1.out.lt; simp; omega) (own_ne HO1.out HBk1.out (by decide))).trans (HBk1.out.alloc _)); have hsz2 := HB2.out.size; have c1 := HBk2.out.cell 1; simp only [List.getElem?_toArray, tfC, List.getElem?_cons_zero, List.getElem?_cons_succ] at c1; clear hown hgrow hblk)
        | (go_at_call 21; refine (Tryd.strconv_AppendInt_10 w.heap.size _ f.2 HFO.out.2.1 HFO.out.2.2 _ _ _ HO2.out hsz2 (by omega) (fun w' hb' => HT.out w' (HB2.out.trans hb'))).mono ?_; rintro e w3 ⟨v3, rfl, hown, hbl3, _⟩; have HO3 := Lib.hid hown; have HB3 := Lib.hid (HB2.out.trans hbl3); have hsz3 := HB3.out.size; clear hown hbl3)
        | (at_builtin; refine app tByt (.tmp 23) (.tmp 24) rfl rfl (by rfl) (HO3.out.alloc _) (by rfl) (Sn.new w3 (Lib.byteCells [10]).toArray 5 1 1 rfl) (byteCells_one [10]) (by unfold maxLen; omega) (by omega) (by simp; omega) ?_; intro v4 w4 hown hgrow hblk; rw [List.toList_toArray, ← byteCells_append, ← byteCells_append] at hown; have HO4 := Lib.hid hown; have HB4 := Lib.hid ((HB3.out.alloc hsz3 _).grown hgrow (by simp; omega) (fun g hg => (HO3.out.lt g hg).1)); clear hown hgrow hblk))
      have hO4 := HO4.out
      have hLs : L ++ f.1.data.toList ++ [32] ++ Lib.itoa f.2 ++ [10] = textL (fs.take (k + 1)) := by
        rw [HSN.out, ← HL.out, ← HF.out]
        simp [lineT]
      have hLn : L.length + f.1.size + 1 + (Lib.itoa f.2).length + 1 = (textL (fs.take (k + 1))).length := by
        rw [← hLs]
        simp only [List.length_append, List.length_cons, List.length_nil]
        have h2 : f.1.data.toList.length = f.1.size := by rw [Array.length_toList]; rfl
        omega
      rw [hLs, hLn] at hO4
      exact ⟨⟨k + 1, by omega, by go_num, Lib.hid hO4, HB4⟩, by simp [intOf]; omega⟩
    · obtain rfl : k = fs.length := by omega
      rw [List.take_length] at hL
      have hcv : (convert 57 9 u3).run Tryd.prog wr = .ok (.string (textS fs)) wr := by
        rcases HO.out.2 with ⟨rfl, h0⟩ | ⟨g, cap', cur, rfl, _, hh, _⟩
        · have hL0 : L = [] := List.eq_nil_of_length_eq_zero h0
          rw [run_convert_bytes_nil wr 57 5 Tryd.underlying57 Tryd.underlying5 _ _ _ Tryd.underlying9]
          unfold textS
          rw [← hL, hL0]
          rfl
        · have := run_convert_bytes_back wr 57 9 5 ⟨g, 0, none⟩ cap' L Tryd.underlying57 Tryd.underlying5 Tryd.underlying9 (fun j hj => by
            have := HO.out.cells (g := g) rfl j (.int .u8 (L[j].toNat : Int)) (by simp [Lib.byteCells, hj])
            exact this)
          unfold textS
          rw [← hL]
          exact this
      have HL := Lib.hid hL
      clear hL
      go_wp2_with fail
      go_ret
      exact ⟨rfl, HB.out⟩
end Go.Proofs.YtmhckcghfikeiaaDoor
