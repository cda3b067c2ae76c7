/- Slices of elements of any number of cells, and append onto a row that the call owns, in the words of this seat. No program is named here. -/
import Derived.Test.YtmaifldiondchaaDoorWords
import Derived.Maps.AppendAt
import Derived.OwnWalk
namespace Go.Proofs.YtmaifldiondchaaDoor
open Go.RowKit

/-- v is a slice of n elements of s cells each, which hold xs. -/
def Sn (w : World) (s : Nat) (v : Value) (n : Nat) (xs : List Value) : Prop :=
  ∃ (A : Option Addr) (cap : Nat), v = .slice A n cap ∧ n ≤ cap ∧ xs.length = n * s ∧ (0 < n → ∃ b off, A = some ⟨b, off, none⟩ ∧ ∀ j u, xs[j]? = some u → w.cell? ⟨b, off + j, none⟩ = some u)

theorem Sn.keep {w w' : World} {s n : Nat} {v : Value} {xs : List Value} (h : Sn w s v n xs) (hk : ∀ a u, w.cell? a = some u → w'.cell? a = some u) : Sn w' s v n xs := by
  obtain ⟨A, cap, rfl, hc, hl, hx⟩ := h
  refine ⟨A, cap, rfl, hc, hl, fun hp => ?_⟩
  obtain ⟨b, off, rfl, h⟩ := hx hp
  exact ⟨b, off, rfl, fun j u hj => hk _ _ (h j u hj)⟩
theorem Sn.below {w w' : World} {s n : Nat} {v : Value} {xs : List Value} (h : Sn w s v n xs) (hb : Below w.heap.size w w') : Sn w' s v n xs :=
  h.keep fun _ _ hc => Below.cell' hb hc
theorem Sn.alloc {w : World} {s n : Nat} {v : Value} {xs : List Value} (h : Sn w s v n xs) (o : Obj) : Sn (w.alloc o) s v n xs :=
  h.below ((Below.refl _ _).alloc (Nat.le_refl _) o)
theorem Sn.sl {w : World} {n : Nat} {v : Value} {xs : List Value} (h : Sn w 1 v n xs) : Sl w v xs := by
  obtain ⟨A, cap, rfl, hc, hl, hx⟩ := h
  have : xs.length = n := by omega
  subst this
  exact ⟨A, cap, rfl, hc, hx⟩
theorem Sl.sn {w : World} {v : Value} {xs : List Value} (h : Sl w v xs) : Sn w 1 v xs.length xs := by
  obtain ⟨A, cap, rfl, hc, hx⟩ := h
  exact ⟨A, cap, rfl, hc, by omega, hx⟩
theorem Sn.own {w : World} {base e s n : Nat} {v : Value} {xs : List Value} (h : w.ownsRow base e s v n xs) : Sn w s v n xs := by
  obtain ⟨hl, h | ⟨g, cap, cur, rfl, hb, hg, hn, hm, hcs, htk⟩⟩ := h
  · obtain ⟨rfl, rfl⟩ := h
    exact ⟨none, 0, rfl, Nat.le_refl _, hl, fun h => absurd h (by omega)⟩
  · refine ⟨_, cap, rfl, hn, hl, fun hp => ⟨g, 0, rfl, fun j u hj => ?_⟩⟩
    rw [cell_of_row w g (0 + j) cur e (0, 0) hg, Nat.zero_add]
    rw [← htk, List.getElem?_take] at hj
    split at hj
    · simpa using hj
    · cases hj
/-- What a new block holds, as a slice of all of it. -/
theorem Sn.new (w : World) (cs : Array Value) (t : TypeId) (s n : Nat) (hs : cs.size = n * s) : Sn (w.alloc (.cells cs t)) s (.slice (some ⟨w.heap.size, 0, none⟩) n n) n cs.toList := by
  refine ⟨_, n, rfl, Nat.le_refl _, by simpa using hs, fun _ => ⟨w.heap.size, 0, rfl, fun j u hj => ?_⟩⟩
  rw [cell_of_row _ w.heap.size (0 + j) cs t (0, 0) (heap_alloc_new w _), Nat.zero_add]
  simpa using hj

theorem Sn.newAt (w : World) (cs : Array Value) (t : TypeId) (s n g : Nat) (hs : cs.size = n * s) (hg : w.heap.size = g) : Sn (w.alloc (.cells cs t)) s (.slice (some ⟨g, 0, none⟩) n n) n cs.toList := by
  subst hg
  exact Sn.new w cs t s n hs
/-- A new block of capacity n, owned, with nothing in it. -/
theorem own_new (w : World) (cs : Array Value) (e s cap base g : Nat) (hb : base ≤ w.heap.size) (hs : cs.size = cap * s) (hm : cap ≤ maxLen) (hg : w.heap.size = g) : (w.alloc (.cells cs e)).ownsRow base e s (.slice (some ⟨g, 0, none⟩) 0 cap) 0 [] := by
  subst hg
  exact World.ownsRow_made w cs cap hb hm hs
theorem own_below {w w' : World} {base e s n : Nat} {v : Value} {xs : List Value} (h : w.ownsRow base e s v n xs) (hb : Below w.heap.size w w') : w'.ownsRow base e s v n xs := by
  refine ⟨h.1, ?_⟩
  have hlt := h.lt
  rcases h.2 with h2 | ⟨g, cap, cur, rfl, hg, hh, r⟩
  · exact .inl h2
  · exact .inr ⟨g, cap, cur, rfl, hg, by rw [hb.block g (hlt g rfl).2]; exact hh, r⟩
theorem own_base {w : World} {base base' e s n : Nat} {v : Value} {xs : List Value} (h : w.ownsRow base e s v n xs) (hb : base' ≤ base) : w.ownsRow base' e s v n xs := by
  refine ⟨h.1, ?_⟩
  rcases h.2 with h2 | ⟨g, cap, cur, rfl, hg, r⟩
  · exact .inl h2
  · exact .inr ⟨g, cap, cur, rfl, Nat.le_trans hb hg, r⟩

/-- The table's facts on a slice type t of elements of type e: cells and bytes of an element. -/
structure SlT (P : Program) (t e s bytes : Nat) : Prop where
  ht : P.underlying t = some (.slice e)
  hi : ∃ i z, P.info? e = some i ∧ i.zero = some z ∧ i.size = s ∧ i.bytes = bytes ∧ z.cells.size = s
  hs : 0 < s
theorem SlT.mk' {P : Program} {t e s bytes : Nat} {z : Value} (ht : P.underlying t = some (.slice e)) (h : (P.info? e).map (fun i => (i.zero, i.size, i.bytes)) = some (some z, s, bytes)) (hz : z.cells.size = s) (hs : 0 < s) : SlT P t e s bytes := by
  obtain ⟨i, h1, h2, h3, h4⟩ := info_parts h
  exact ⟨ht, ⟨i, z, h1, h2, h3, h4, hz⟩, hs⟩

section
variable {P : Program} {w : World}
theorem run_append_none {t ty e s bytes : Nat} (T : SlT P t e s bytes) {base n : Nat} {v : Value} {xs : List Value} (hown : w.ownsRow base e s v n xs) (c : Nat) :
    (Builtin.append_ #[t, t] ty #[v, .slice none 0 c]).run P w = .ok v w := by
  obtain ⟨i, z, hi, hz, hsi, hby, hzs⟩ := T.hi
  rcases hown.2 with ⟨rfl, rfl⟩ | ⟨g, cap, cur, rfl, _, _, hnc, _⟩
  · simp [Builtin.append_, run_underlying T.ht, sizeOf, typeInfo, hi, Builtin.lenOf, Builtin.firstCells]
  · simp [Builtin.append_, run_underlying T.ht, sizeOf, typeInfo, hi, Builtin.lenOf, Builtin.firstCells, hnc, storeCells]
theorem run_append_zero {t ty e s bytes : Nat} (T : SlT P t e s bytes) {base n : Nat} {v : Value} {xs : List Value} (hown : w.ownsRow base e s v n xs) (a : Addr) (c : Nat) :
    (Builtin.append_ #[t, t] ty #[v, .slice (some a) 0 c]).run P w = .ok v w := by
  obtain ⟨i, z, hi, hz, hsi, hby, hzs⟩ := T.hi
  rcases hown.2 with ⟨rfl, rfl⟩ | ⟨g, cap, cur, rfl, _, _, hnc, _⟩
  · simp [Builtin.append_, run_underlying T.ht, sizeOf, typeInfo, hi, Builtin.lenOf, Builtin.firstCells, loadCells, loadCellsFrom]
  · simp [Builtin.append_, run_underlying T.ht, sizeOf, typeInfo, hi, Builtin.lenOf, Builtin.firstCells, hnc, storeCells, loadCells, loadCellsFrom]

/-- append onto a row of the call's own, the source any slice. -/
theorem run_append_sn {t ty e s bytes : Nat} (T : SlT P t e s bytes) {base n m : Nat} {v x : Value} {xs news : List Value} (hown : w.ownsRow base e s v n xs) (hx : Sn w s x m news)
    (h1 : ∀ u ∈ news, u.oneCell' = true) (h63 : n + m ≤ maxLen) (hbytes : (n + m) * bytes ≤ 140737488355328) (hbase : base ≤ w.heap.size) :
    ∃ v' w', (Builtin.append_ #[t, t] ty #[v, x]).run P w = .ok v' w' ∧ w'.ownsRow base e s v' (n + m) (xs ++ news) ∧ w.grownBy w' v.ownBlock ∧ (v'.ownBlock = v.ownBlock ∨ v'.ownBlock = some w.heap.size) := by
  obtain ⟨A, c, rfl, hmc, hl, hcell⟩ := hx
  rcases Nat.eq_zero_or_pos m with rfl | hm
  · have hn : news = [] := List.eq_nil_of_length_eq_zero (by simpa using hl)
    subst hn
    refine ⟨v, w, ?_, by simpa using hown, World.grownBy.refl w _, .inl rfl⟩
    cases A with
    | none => exact run_append_none T hown c
    | some a => exact run_append_zero T hown a c
  · obtain ⟨b, off, rfl, hc⟩ := hcell hm
    obtain ⟨i, z, hi, hz, hsi, hby, hzs⟩ := T.hi
    obtain ⟨v', w', h2, h3, h4, _, h5⟩ := run_append_own_at (P := P) w base t ty e i z s bytes T.ht hi hz hsi hby hzs T.hs v n xs hown ⟨b, off, none⟩ m c news hl (fun j u hj => by
      have := hc j u hj
      rw [Addr.add_lit]; exact this) h1 h63 hbytes hbase
    exact ⟨v', w', h2, h3, h4, h5⟩

/-- The same, for the walk: offered behind 'at_builtin'. -/
theorem app {ops : Array Oper} {rest : List Oper} {o : Oper} {a : Act} {Q : Exit → Act → World → Prop} {t e s bytes : Nat} (T : SlT P t e s bytes) (p q : Operand)
    (ho : o.op = .call { callee := .builtin .append, args := #[p, q], argTypes := #[t, t] }) (hw : Region.wanted o (yielded ops a.tmps) = true)
    {base n m : Nat} {v x : Value} {xs news : List Value} (hv : a.eval p = v) (hown : w.ownsRow base e s v n xs) (hxv : a.eval q = x) (hx : Sn w s x m news)
    (h1 : ∀ u ∈ news, u.oneCell' = true) (h63 : n + m ≤ maxLen) (hbytes : (n + m) * bytes ≤ 140737488355328) (hbase : base ≤ w.heap.size)
    (h : ∀ v' w', w'.ownsRow base e s v' (n + m) (xs ++ news) → w.grownBy w' v.ownBlock → (v'.ownBlock = v.ownBlock ∨ v'.ownBlock = some w.heap.size) → wpList P ops Q rest (a.put o.dst v') w') :
    wpList P ops Q (o :: rest) a w := by
  refine wpList_step fun K hK => ?_
  rw [if_pos hw]
  obtain ⟨v', w', hrun, h2, h3, h4⟩ := run_append_sn (ty := o.type) T hown hx h1 h63 hbytes hbase
  unfold Oper.wp execOp
  simp only [ho, resolve, invoke, builtin, Sem.run_bind, Sem.run_pure, Result.andThen_ok, List.map_toArray, List.map_cons, List.map_nil, hv, hxv, hrun]
  exact hK _ _ (h v' w' h2 h3 h4)
end
end Go.Proofs.YtmaifldiondchaaDoor
