/- Rows of bytes of the call's own whose frozen stretch, if there is one, lies behind the row: what '[]byte(s)' leaves; append onto them. -/
import Derived.Test.YtmaifldiondchaaDoorScrF
import Derived.Laws.IdiomStrings
import Derived.Lib.AppendStr
namespace Go.Proofs.YtmaifldiondchaaDoor
open Go.RowKit

def OwnT (w : World) (base : Nat) (v : Value) (l : Bs) : Prop :=
  (v = .slice none 0 0 ∧ l = []) ∨
  ∃ g cap cur fz, v = .slice (some ⟨g, 0, none⟩) l.length cap ∧ base ≤ g ∧ w.heap[g]? = some (.cells cur 5 fz) ∧ (fz = (0, 0) ∨ cap ≤ fz.1) ∧ l.length ≤ cap ∧ cap ≤ maxLen ∧ cur.size = cap ∧ cur.toList.take l.length = Lib.byteCells l
theorem OwnT.of {w : World} {base : Nat} {v : Value} {l : Bs} (h : OwnB w base v l) : OwnT w base v l := by
  rcases h.2 with ⟨h1, h2⟩ | ⟨g, cap, cur, h1, h2, h3, h4, h5, h6, h7⟩
  · exact .inl ⟨h1, List.eq_nil_of_length_eq_zero h2⟩
  · exact .inr ⟨g, cap, cur, (0, 0), h1, h2, h3, .inl rfl, h4, h5, by simpa using h6, by simpa using h7⟩
theorem OwnT.nil (w : World) (base : Nat) : OwnT w base (.slice none 0 0) [] := .inl ⟨rfl, rfl⟩
theorem OwnT.lt {w : World} {base : Nat} {v : Value} {l : Bs} (h : OwnT w base v l) : ∀ k, v.ownBlock = some k → base ≤ k ∧ k < w.heap.size := by
  intro k hk
  rcases h with ⟨rfl, _⟩ | ⟨g, cap, cur, fz, rfl, hb, hg, _⟩
  · simp [Value.ownBlock] at hk
  · simp [Value.ownBlock] at hk
    subst hk
    exact ⟨hb, (Array.getElem?_eq_some_iff.1 hg).1⟩
theorem OwnT.below {w w' : World} {base : Nat} {v : Value} {l : Bs} (h : OwnT w base v l) (hb : Below w.heap.size w w') : OwnT w' base v l := by
  rcases h with h | ⟨g, cap, cur, fz, h1, h2, h3, h4⟩
  · exact .inl h
  · exact .inr ⟨g, cap, cur, fz, h1, h2, (hb.block g (Array.getElem?_eq_some_iff.1 h3).1).trans h3, h4⟩
theorem OwnT.alloc {w : World} {base : Nat} {v : Value} {l : Bs} (h : OwnT w base v l) (o : Obj) : OwnT (w.alloc o) base v l := h.below (bel1 w o)
theorem OwnT.drewN {w : World} {base : Nat} {v : Value} {l : Bs} (h : OwnT w base v l) (n : Nat) : OwnT (w.drewN n) base v l := h
theorem OwnT.cell {w : World} {base g cap : Nat} {n : Nat} {l : Bs} (h : OwnT w base (.slice (some ⟨g, 0, none⟩) n cap) l) (j : Nat) (hj : j < l.length) : w.cell? ⟨g, j, none⟩ = some (.int .u8 (l[j].toNat : Int)) := by
  rcases h with ⟨h, _⟩ | ⟨g', cap', cur, fz, h1, _, h3, _, _, _, _, h7⟩
  · cases h
  · injection h1 with e _ _
    injection e with e
    injection e with e _ _
    subst e
    rw [cell_of_row w g j cur _ fz h3]
    have : (cur.toList.take l.length)[j]? = some (.int .u8 (l[j].toNat : Int)) := by rw [h7]; simp [Lib.byteCells, hj]
    rw [List.getElem?_take, if_pos hj] at this
    simpa using this
theorem OwnT.conv {w : World} {base : Nat} {v : Value} {l : Bs} (h : OwnT w base v l) : (convert 23 9 v).run Tryd.prog w = .ok (.string (SB l)) w := by
  rcases id h with ⟨rfl, rfl⟩ | ⟨g, cap', cur, fz, rfl, _⟩
  · rw [run_convert_bytes_nil w 23 5 Tryd.underlying23 Tryd.underlying5 _ _ _ Tryd.underlying9]
    rfl
  · exact run_convert_bytes_back w 23 9 5 ⟨g, 0, none⟩ cap' l Tryd.underlying23 Tryd.underlying5 Tryd.underlying9 (fun j hj => by
      have := OwnT.cell h j hj
      rw [show (⟨g, 0, none⟩ : Addr).add j = ⟨g, j, none⟩ by rw [Addr.add_lit]; simp]
      exact this)
/-- '[]byte(s)'. -/
theorem OwnT.made (w : World) (base : Nat) (l : Bs) (hb : base ≤ w.heap.size) (hl : l.length ≤ maxLen) :
    ∃ v w', (convert 9 23 (.string (SB l))).run Tryd.prog w = .ok v w' ∧ OwnT w' base v l ∧ Below w.heap.size w w' ∧ (∀ k, v.ownBlock = some k → k = w.heap.size) := by
  have hr := run_bytes_of_string (P := Tryd.prog) w 9 23 5 (SB l) Tryd.underlying9 Tryd.underlying23 Tryd.underlying5
  have hge := grownCap_ge w (SB l).size 0 5
  have hle := grownCap_le_maxLen w (SB l).size 0 5 (by rw [SB_size]; exact hl)
  obtain ⟨cap, hcap⟩ : ∃ c, c = grownCap w (SB l).size 0 5 := ⟨_, rfl⟩
  rw [← hcap] at hr hge hle
  rw [SB_size] at hr hge
  have hsz : (bytesRow (SB l) cap).size = cap := by
    unfold bytesRow
    simp only [Array.size_append, Array.size_map, Array.size_replicate]
    rw [show (SB l).data.size = l.length from SB_size l, SB_size]
    omega
  refine ⟨_, _, hr, .inr ⟨w.heap.size, cap, _, _, rfl, hb, heap_alloc_new w.drew _, .inr (by rw [hsz]; exact Nat.le_refl _), hge, hle, hsz, ?_⟩, (Below.refl _ w).drew.alloc (Nat.le_refl _) _, fun k hk => by simpa [Value.ownBlock] using hk.symm⟩
  unfold bytesRow
  rw [Array.toList_append, List.take_append_of_le_length (by simp [SB]), List.take_of_length_le (by simp [SB])]
  simp [SB, Lib.byteCells]
section
variable {P : Program}
/-- Cells stored into a row ahead of its frozen stretch. -/
theorem storeT (g o : Nat) (t : TypeId) (fz : Nat × Nat) : ∀ (vs : List Value) (i : Nat) (cur : Array Value) (w : World), w.heap[g]? = some (.cells cur t fz) → (fz = (0, 0) ∨ o + i + vs.length ≤ fz.1) → o + i + vs.length ≤ cur.size → (∀ v ∈ vs, v.oneCell' = true) →
    (storeCells ⟨g, o, none⟩ vs i).run P w = .ok () (w.setRow g (cur.toList.take (o + i) ++ vs ++ cur.toList.drop (o + i + vs.length)).toArray) := by
  intro vs
  induction vs with
  | nil =>
    intro i cur w hg _ _ _
    have h : (cur.toList.take (o + i) ++ [] ++ cur.toList.drop (o + i + 0)).toArray = cur := by simp
    rw [List.length_nil, h, setRow_self w g cur t fz hg]
    rfl
  | cons v rest ih =>
    intro i cur w hg hfz hl h1
    rw [List.length_cons] at hfz hl
    have hst : (store ((⟨g, o, none⟩ : Addr).add i) v).run P w = .ok () (w.setRow g (cur.setIfInBounds (o + i) v)) := by
      have hfro : w.frozen? ⟨g, o + i, none⟩ = false := by
        rcases hfz with rfl | h
        · simp [World.frozen?, hg]
        · obtain ⟨lo, hi⟩ := fz
          have h : o + i + (rest.length + 1) ≤ lo := h
          simp only [World.frozen?, hg, Bool.and_eq_false_iff, decide_eq_false_iff_not]
          left; omega
      have hcell : w.cell? ⟨g, o + i, none⟩ = some cur[o + i] := by rw [cell_of_row w g (o + i) cur t fz hg, Array.getElem?_eq_getElem]
      rw [Addr.add_lit, run_store P w _ v _ (h1 v (by simp)), hcell]
      simp [hfro, setCell_eq_setRow w g (o + i) cur t fz v hg]
    have hi := ih (i + 1) (cur.setIfInBounds (o + i) v) (w.setRow g (cur.setIfInBounds (o + i) v)) (setRow_heap w g cur _ t _ hg) (by rcases hfz with h | h; exact .inl h; right; omega) (by simp; omega) (fun x hx => h1 x (by simp [hx]))
    simp only [storeCells, Sem.run_bind, hst, Result.andThen_ok, hi, setRow_setRow, List.length_cons]
    congr 3
    have e := list_seg_step cur.toList (o + i) v rest (by simp; omega)
    simpa [Array.toList_setIfInBounds, Nat.add_assoc] using e
end
theorem iByte : ∃ i, Tryd.prog.info? 5 = some i ∧ i.zero = some (.int .u8 0) ∧ i.size = 1 ∧ i.bytes = 1 :=
  info_parts (show (Tryd.prog.info? 5).map (fun i => (i.zero, i.size, i.bytes)) = some (some (.int .u8 0), 1, 1) by kernel_rfl)
theorem row_put {cur : Array Value} {l m : Bs} {cap : Nat} (hcs : cur.size = cap) (hroom : l.length + m.length ≤ cap) (ht : cur.toList.take l.length = Lib.byteCells l) :
    (cur.toList.take l.length ++ Lib.byteCells m ++ cur.toList.drop (l.length + m.length)).toArray.size = cap ∧ (cur.toList.take l.length ++ Lib.byteCells m ++ cur.toList.drop (l.length + m.length)).toArray.toList.take (l ++ m).length = Lib.byteCells (l ++ m) := by
  constructor
  · simp only [List.size_toArray, List.length_append, List.length_take, List.length_drop, Array.length_toList, byteCells_length]
    omega
  · rw [List.toList_toArray, ht, ← byteCells_append, List.take_append_of_le_length (by rw [byteCells_length]; exact Nat.le_refl _), List.take_of_length_le (by rw [byteCells_length]; exact Nat.le_refl _)]
/-- append onto such a row: a string. -/
theorem run_appS (ty : TypeId) {w : World} {base : Nat} {v : Value} {l m : Bs} (hown : OwnT w base v l) (hlim : l.length + m.length ≤ 140737488355328) (hbase : base ≤ w.heap.size) :
    ∃ v' w', (Builtin.append_ #[23, 9] ty #[v, .string (SB m)]).run Tryd.prog w = .ok v' w' ∧ OwnT w' base v' (l ++ m) ∧ w.grownBy w' v.ownBlock := by
  obtain ⟨i, hi, hz, hs1, hby⟩ := iByte
  have hsc : Lib.strCells (SB m) = Lib.byteCells m := rfl
  have hmx : ∀ k, k ≤ 140737488355328 → k ≤ maxLen := fun k h => by unfold maxLen; omega
  rcases hown with ⟨rfl, rfl⟩ | ⟨g, cap, cur, fz, rfl, hbg, hg, hfz, hnc, hcm, hcs, htake⟩
  · obtain ⟨v', w', h1, h2, h3, _⟩ := Lib.run_append_own_string (P := Tryd.prog) w base 23 9 ty 5 i Tryd.underlying23 Tryd.underlying9 hi hz hs1 hby (.slice none 0 0) 0 [] (World.ownsRow_nil _ _ _ _) (SB m) (by rw [SB_size]; exact hmx _ (by simpa using hlim)) (by rw [SB_size]; simpa using hlim) hbase
    rw [hsc, SB_size, Nat.zero_add, List.nil_append] at h2
    exact ⟨v', w', h1, OwnT.of h2, h3⟩
  · by_cases hroom : l.length + m.length ≤ cap
    · have hf := Lib.run_firstCells_string (P := Tryd.prog) w 1 (SB m)
      rw [SB_size, hsc] at hf
      have hst := storeT (P := Tryd.prog) g l.length 5 fz (Lib.byteCells m) 0 cur w hg (by rw [byteCells_length]; rcases hfz with h | h; exact .inl h; right; omega) (by rw [byteCells_length]; omega) (byteCells_one m)
      rw [byteCells_length] at hst
      simp only [Nat.add_zero] at hst
      obtain ⟨p1, p2⟩ := row_put (m := m) hcs hroom htake
      refine ⟨.slice (some ⟨g, 0, none⟩) (l ++ m).length cap, w.setRow g (cur.toList.take l.length ++ Lib.byteCells m ++ cur.toList.drop (l.length + m.length)).toArray, ?_, .inr ⟨g, cap, _, fz, rfl, hbg, setRow_heap w g cur _ _ _ hg, hfz, by rw [List.length_append]; omega, hcm, p1, p2⟩, ⟨rfl, rfl, rfl, by simp, fun k _ hk => setRow_other w g k _ (fun e => hk (by simp [Value.ownBlock, e]))⟩⟩
      have hsz : (SB m).size = m.length := SB_size m
      simp [Builtin.append_, run_underlying Tryd.underlying23, run_underlying Tryd.underlying9, sizeOf, typeInfo, hi, hs1, Builtin.lenOf, hsz, hroom, Addr.add_lit]
      rw [hf]
      simp only [Result.andThen_ok]
      rw [hst]
      simp
    · have hr := Lib.run_append_grow_string (P := Tryd.prog) w 23 9 ty 5 i (.int .u8 0) Tryd.underlying23 Tryd.underlying9 hi hz ⟨g, 0, none⟩ l.length cap (Lib.byteCells l) (by rw [hs1, byteCells_length]; omega) (fun j u hj => by
        rw [Addr.add_lit, cell_of_row w g _ cur _ fz hg]
        rw [← htake, List.getElem?_take] at hj
        split at hj
        · simpa using hj
        · cases hj) (SB m) (by rw [SB_size]; omega) (by rw [SB_size]; have := hmx _ hlim; unfold maxLen at this; omega) (by rw [hby, SB_size]; exact growslice_fits (by omega) (by omega))
      rw [SB_size, hsc] at hr
      have hge := grownCap_ge w (l.length + m.length) cap 5
      have hle := grownCap_le_maxLen w (l.length + m.length) cap 5 (hmx _ hlim)
      refine ⟨_, _, hr, .inr ⟨w.heap.size, _, _, (0, 0), by rw [List.length_append], hbase, heap_alloc_new w.drew _, .inl rfl, by rw [List.length_append]; exact hge, hle, ?_, ?_⟩, ⟨rfl, rfl, rfl, by simp, fun k hk _ => heap_alloc_old w.drew _ hk⟩⟩
      · have hz1 : (Value.int IntKind.u8 0).cells.size = 1 := rfl
        simp only [Array.size_append, List.size_toArray, size_zeroCells, hz1, byteCells_length]
        omega
      · simp only [Array.toList_append, List.append_assoc]
        rw [← List.append_assoc, ← byteCells_append, List.take_append_of_le_length (by rw [byteCells_length]; exact Nat.le_refl _), List.take_of_length_le (by rw [byteCells_length]; exact Nat.le_refl _)]
/-- append onto such a row: bytes of a slice. -/
theorem run_appL (ty : TypeId) {w : World} {base : Nat} {v : Value} {l m : Bs} (hown : OwnT w base v l) {b : Nat} {off c : Nat} (hx : ∀ j (hj : j < m.length), w.cell? ⟨b, off + j, none⟩ = some (.int .u8 (m[j].toNat : Int))) (hlim : l.length + m.length ≤ 140737488355328) (hbase : base ≤ w.heap.size) :
    ∃ v' w', (Builtin.append_ #[23, 23] ty #[v, .slice (some ⟨b, off, none⟩) m.length c]).run Tryd.prog w = .ok v' w' ∧ OwnT w' base v' (l ++ m) ∧ w.grownBy w' v.ownBlock := by
  obtain ⟨i, hi, hz, hs1, hby⟩ := iByte
  have hnews : ∀ j u, (Lib.byteCells m)[j]? = some u → w.cell? ((⟨b, off, none⟩ : Addr).add j) = some u := fun j u hj => by
    have hjm : j < m.length := by have := (List.getElem?_eq_some_iff.1 hj).1; rwa [byteCells_length] at this
    have e : u = .int .u8 (m[j].toNat : Int) := by simpa [Lib.byteCells, hjm] using hj.symm
    rw [Addr.add_lit, e]
    exact hx j hjm
  have hmx : ∀ k, k ≤ 140737488355328 → k ≤ maxLen := fun k h => by unfold maxLen; omega
  rcases hown with ⟨rfl, rfl⟩ | ⟨g, cap, cur, fz, rfl, hbg, hg, hfz, hnc, hcm, hcs, htake⟩
  · have hzr : (Value.int IntKind.u8 0).cells.size = 1 := rfl
    obtain ⟨v', w', h2, h3, h4, _, h5⟩ := run_append_own_at (P := Tryd.prog) w base 23 ty 5 i (.int .u8 0) 1 1 Tryd.underlying23 hi hz hs1 hby hzr (by decide) (.slice none 0 0) 0 [] (World.ownsRow_nil _ _ _ _) ⟨b, off, none⟩ m.length c (Lib.byteCells m) (by rw [byteCells_length]; omega) hnews (byteCells_one m) (hmx _ (by simpa using hlim)) (by simpa using hlim) hbase
    rw [Nat.zero_add, List.nil_append] at h3
    exact ⟨v', w', h2, OwnT.of h3, h4⟩
  · by_cases hroom : l.length + m.length ≤ cap
    · have hf := run_firstCells_some (P := Tryd.prog) w 1 m.length ⟨b, off, none⟩ m.length c (Lib.byteCells m) (by rw [byteCells_length]; omega) hnews
      have hst := storeT (P := Tryd.prog) g l.length 5 fz (Lib.byteCells m) 0 cur w hg (by rw [byteCells_length]; rcases hfz with h | h; exact .inl h; right; omega) (by rw [byteCells_length]; omega) (byteCells_one m)
      rw [byteCells_length] at hst
      simp only [Nat.add_zero] at hst
      obtain ⟨p1, p2⟩ := row_put (m := m) hcs hroom htake
      refine ⟨.slice (some ⟨g, 0, none⟩) (l ++ m).length cap, w.setRow g (cur.toList.take l.length ++ Lib.byteCells m ++ cur.toList.drop (l.length + m.length)).toArray, ?_, .inr ⟨g, cap, _, fz, rfl, hbg, setRow_heap w g cur _ _ _ hg, hfz, by rw [List.length_append]; omega, hcm, p1, p2⟩, ⟨rfl, rfl, rfl, by simp, fun k _ hk => setRow_other w g k _ (fun e => hk (by simp [Value.ownBlock, e]))⟩⟩
      simp [Builtin.append_, run_underlying Tryd.underlying23, sizeOf, typeInfo, hi, hs1, Builtin.lenOf, hroom, Addr.add_lit]
      rw [hf]
      simp only [Result.andThen_ok]
      rw [hst]
      simp
    · have hr := run_append_grow (P := Tryd.prog) w 23 ty 5 i (.int .u8 0) Tryd.underlying23 hi hz ⟨g, 0, none⟩ l.length cap (Lib.byteCells l) (by rw [hs1, byteCells_length]; omega) (fun j u hj => by
        rw [Addr.add_lit, cell_of_row w g _ cur _ fz hg]
        rw [← htake, List.getElem?_take] at hj
        split at hj
        · simpa using hj
        · cases hj) ⟨b, off, none⟩ m.length c (Lib.byteCells m) (by rw [hs1, byteCells_length]; omega) hnews (by omega) (by have := hmx _ hlim; unfold maxLen at this; omega) (by rw [hby]; exact growslice_fits (by omega) (by omega))
      have hge := grownCap_ge w (l.length + m.length) cap 5
      have hle := grownCap_le_maxLen w (l.length + m.length) cap 5 (hmx _ hlim)
      refine ⟨_, _, hr, .inr ⟨w.heap.size, _, _, (0, 0), by rw [List.length_append], hbase, heap_alloc_new w.drew _, .inl rfl, by rw [List.length_append]; exact hge, hle, ?_, ?_⟩, ⟨rfl, rfl, rfl, by simp, fun k hk _ => heap_alloc_old w.drew _ hk⟩⟩
      · have hz1 : (Value.int IntKind.u8 0).cells.size = 1 := rfl
        simp only [Array.size_append, List.size_toArray, size_zeroCells, hz1, byteCells_length]
        omega
      · simp only [Array.toList_append, List.append_assoc]
        rw [← List.append_assoc, ← byteCells_append, List.take_append_of_le_length (by rw [byteCells_length]; exact Nat.le_refl _), List.take_of_length_le (by rw [byteCells_length]; exact Nat.le_refl _)]

section
variable {ops : Array Oper} {rest : List Oper} {o : Oper} {a : Act} {w : World} {Q : Exit → Act → World → Prop}
theorem appTS (sl x : Operand) (ho : o.op = .call { callee := .builtin .append, args := #[sl, x], argTypes := #[23, 9] }) (hw : Region.wanted o (yielded ops a.tmps) = true)
    {base : Nat} {v : Value} {l m : Bs} (hv : a.eval sl = v) (hown : OwnT w base v l) (hx : a.eval x = .string (SB m)) (hlim : l.length + m.length ≤ 140737488355328) (hbase : base ≤ w.heap.size)
    (h : ∀ v' w', OwnT w' base v' (l ++ m) → w.grownBy w' v.ownBlock → wpList Tryd.prog ops Q rest (a.put o.dst v') w') : wpList Tryd.prog ops Q (o :: rest) a w := by
  refine wpList_step fun K hK => ?_
  rw [if_pos hw]
  obtain ⟨v', w', hrun, h2, h3⟩ := run_appS o.type hown hlim hbase
  unfold Oper.wp execOp
  simp only [ho, resolve, invoke, builtin, Sem.run_bind, Sem.run_pure, Result.andThen_ok, List.map_toArray, List.map_cons, List.map_nil, hv, hx, hrun]
  exact hK _ _ (h v' w' h2 h3)
theorem appTL (sl x : Operand) (ho : o.op = .call { callee := .builtin .append, args := #[sl, x], argTypes := #[23, 23] }) (hw : Region.wanted o (yielded ops a.tmps) = true)
    {base : Nat} {v : Value} {l m : Bs} {b off c : Nat} (hv : a.eval sl = v) (hown : OwnT w base v l) (hx : a.eval x = .slice (some ⟨b, off, none⟩) m.length c) (hc : ∀ j (hj : j < m.length), w.cell? ⟨b, off + j, none⟩ = some (.int .u8 (m[j].toNat : Int)))
    (hlim : l.length + m.length ≤ 140737488355328) (hbase : base ≤ w.heap.size)
    (h : ∀ v' w', OwnT w' base v' (l ++ m) → w.grownBy w' v.ownBlock → wpList Tryd.prog ops Q rest (a.put o.dst v') w') : wpList Tryd.prog ops Q (o :: rest) a w := by
  refine wpList_step fun K hK => ?_
  rw [if_pos hw]
  obtain ⟨v', w', hrun, h2, h3⟩ := run_appL o.type hown (c := c) hc hlim hbase
  unfold Oper.wp execOp
  simp only [ho, resolve, invoke, builtin, Sem.run_bind, Sem.run_pure, Result.andThen_ok, List.map_toArray, List.map_cons, List.map_nil, hv, hx, hrun]
  exact hK _ _ (h v' w' h2 h3)
end
theorem new_cells (w : World) (l : Bs) (t : TypeId) (j : Nat) (hj : j < l.length) : (w.alloc (.cells (Lib.byteCells l).toArray t)).cell? ⟨w.heap.size, 0 + j, none⟩ = some (.int .u8 (l[j].toNat : Int)) := by
  rw [Nat.zero_add, World.cell?_alloc_new]
  simp [Lib.byteCells, hj]
end Go.Proofs.YtmaifldiondchaaDoor
