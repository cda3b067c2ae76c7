/- Parts: Words for memory that the contracts of this seat share: a slice that reads as a list, nil let in; what is kept below the heap's size. | Slices of elements of any number of cells, and append onto a row that the call owns, in the words of this seat. No program is named here. | Bytes, digests, entries: what lies in cells. No program is named here. | '==' of entries, for a seat without maps of digests. | Digests as keys of maps. | A map from digests to int64 that the call itself has made: what it holds, as a function; the walk's laws for its operations. | Laws for the walk: a struct or an array loaded from the middle of a block; stored into a block that was just made. No program is named here. | A block that is known whole. No program is named here. -/
import Derived.Test.YtombncedfleljaaGreatRows
import Derived.WalkKit
import Derived.WalkSpells
import Derived.WalkLawsBesides
import Derived.Lib.Hide
import Derived.Maps.AppendAt
import Derived.OwnWalk
import Derived.Deep.MidRow
import Derived.Laws.Slices
import Derived.DeepKeys
import Derived.WideKeyArr
import Derived.DeepKeys2
import Derived.Maps.OwnSet
import Derived.Maps.RangeWalk
namespace Go.Proofs.YtombncedfleljaaGreat
open Go.RowKit

/-- The slice value v reads as the list xs of one-cell values in w: nil only if it is empty. -/
def Sl (w : World) (v : Value) (xs : List Value) : Prop :=
  ∃ (A : Option Addr) (cap : Nat), v = .slice A xs.length cap ∧ xs.length ≤ cap ∧ (0 < xs.length → ∃ b off, A = some ⟨b, off, none⟩ ∧ ∀ j u, xs[j]? = some u → w.cell? ⟨b, off + j, none⟩ = some u)

theorem cell_lt {w : World} {a : Addr} {v : Value} (h : w.cell? a = some v) : a.block < w.heap.size := World.block_lt_of_cell? w a h

theorem Below.cell' {w w' : World} (h : Below w.heap.size w w') {a : Addr} {v : Value} (hc : w.cell? a = some v) : w'.cell? a = some v := by
  rw [h.cell (cell_lt hc)]; exact hc

theorem bdrewN {B : Nat} {a w : World} (h : Below B a w) (n : Nat) : Below B a (w.drewN n) := ⟨h.os, h.tape, h.output, h.size, h.block⟩

theorem bstep {a b c : World} (h : Below a.heap.size a b) (k : Below b.heap.size b c) : Below a.heap.size a c := h.trans (k.mono h.size)
theorem balloc {a b : World} (h : Below a.heap.size a b) (o : Obj) : Below a.heap.size a (b.alloc o) := h.alloc h.size o

theorem Sl.keep {w w' : World} {v : Value} {xs : List Value} (h : Sl w v xs) (hk : ∀ a u, w.cell? a = some u → w'.cell? a = some u) : Sl w' v xs := by
  obtain ⟨A, cap, rfl, hc, hx⟩ := h
  refine ⟨A, cap, rfl, hc, fun hp => ?_⟩
  obtain ⟨b, off, rfl, h⟩ := hx hp
  exact ⟨b, off, rfl, fun j u hj => hk _ _ (h j u hj)⟩
theorem Sl.below {w w' : World} {v : Value} {xs : List Value} (h : Sl w v xs) (hb : Below w.heap.size w w') : Sl w' v xs :=
  h.keep fun _ _ hc => Below.cell' hb hc
theorem Sl.alloc {w : World} {v : Value} {xs : List Value} (h : Sl w v xs) (o : Obj) : Sl (w.alloc o) v xs :=
  h.below ((Below.refl _ _).alloc (Nat.le_refl _) o)
theorem Sl.drew {w : World} {v : Value} {xs : List Value} (h : Sl w v xs) : Sl w.drew v xs := h
theorem Sl.drewN {w : World} {v : Value} {xs : List Value} (h : Sl w v xs) (n : Nat) : Sl (w.drewN n) v xs := h
theorem Sl.nil (w : World) (A : Option Addr) (cap : Nat) : Sl w (.slice A 0 cap) [] := ⟨A, cap, rfl, Nat.zero_le _, fun h => absurd h (by simp)⟩

theorem str_tt {a b : ByteArray} (h : a = b) : (a.toList == b.toList) = true := by subst h; simp
theorem str_ff {a b : ByteArray} (h : a ≠ b) : (a.toList == b.toList) = false := by
  rw [beq_eq_false_iff_ne, ByteArray.toList_eq, ByteArray.toList_eq]
  exact fun e => h (ByteArray.ext (Array.toList_inj.1 e))
theorem str_dec (a b : ByteArray) : (a.toList == b.toList) = decide (a = b) := by
  by_cases h : a = b
  · rw [str_tt h]; simp [h]
  · rw [str_ff h]; simp [h]

def strs (l : List ByteArray) : List Value := l.map Value.string
theorem strs_length (l : List ByteArray) : (strs l).length = l.length := by simp [strs]
theorem strs_get (l : List ByteArray) (k : Nat) (h : k < l.length) : (strs l)[k]? = some (.string l[k]) := by simp [strs, h]

def i64s (l : List Int) : List Value := l.map (Value.int .i64)
theorem i64s_length (l : List Int) : (i64s l).length = l.length := by simp [i64s]
theorem i64s_get (l : List Int) (k : Nat) (h : k < l.length) : (i64s l)[k]? = some (.int .i64 (l.getD k 0)) := by simp [i64s, List.getD, h]

end Go.Proofs.YtombncedfleljaaGreat
namespace Go.Proofs.YtombncedfleljaaGreat
open Go.RowKit

/-- v is a slice of n elements of s cells each, which hold xs. -/
def Sn (w : World) (s : Nat) (v : Value) (n : Nat) (xs : List Value) : Prop :=
  ∃ (A : Option Addr) (cap : Nat), v = .slice A n cap ∧ n ≤ cap ∧ xs.length = n * s ∧ (0 < n → ∃ b off, A = some ⟨b, off, none⟩ ∧ ∀ j u, xs[j]? = some u → w.cell? ⟨b, off + j, none⟩ = some u)

theorem Sn.keep {w w' : World} {s n : Nat} {v : Value} {xs : List Value} (h : Sn w s v n xs) (hk : ∀ a u, w.cell? a = some u → w'.cell? a = some u) : Sn w' s v n xs := by
  obtain ⟨A, cap, rfl, hc, hl, hx⟩ := h
  refine ⟨A, cap, rfl, hc, hl, fun hp => ?_⟩
  obtain ⟨b, off, rfl, h⟩ := hx hp
  exact ⟨b, off, rfl, fun j u hj => hk _ _ (h j u hj)⟩
theorem Sn.below {w w' : World} {s n : Nat} {v : Value} {xs : List Value} (h : Sn w s v n xs) (hb : Below w.heap.size w w') : Sn w' s v n xs :=
  h.keep fun _ _ hc => Below.cell' hb hc
theorem Sn.alloc {w : World} {s n : Nat} {v : Value} {xs : List Value} (h : Sn w s v n xs) (o : Obj) : Sn (w.alloc o) s v n xs :=
  h.below ((Below.refl _ _).alloc (Nat.le_refl _) o)
theorem Sn.sl {w : World} {n : Nat} {v : Value} {xs : List Value} (h : Sn w 1 v n xs) : Sl w v xs := by
  obtain ⟨A, cap, rfl, hc, hl, hx⟩ := h
  have : xs.length = n := by omega
  subst this
  exact ⟨A, cap, rfl, hc, hx⟩
theorem Sl.sn {w : World} {v : Value} {xs : List Value} (h : Sl w v xs) : Sn w 1 v xs.length xs := by
  obtain ⟨A, cap, rfl, hc, hx⟩ := h
  exact ⟨A, cap, rfl, hc, by omega, hx⟩
theorem Sn.own {w : World} {base e s n : Nat} {v : Value} {xs : List Value} (h : w.ownsRow base e s v n xs) : Sn w s v n xs := by
  obtain ⟨hl, h | ⟨g, cap, cur, rfl, hb, hg, hn, hm, hcs, htk⟩⟩ := h
  · obtain ⟨rfl, rfl⟩ := h
    exact ⟨none, 0, rfl, Nat.le_refl _, hl, fun h => absurd h (by omega)⟩
  · refine ⟨_, cap, rfl, hn, hl, fun hp => ⟨g, 0, rfl, fun j u hj => ?_⟩⟩
    rw [cell_of_row w g (0 + j) cur e (0, 0) hg, Nat.zero_add]
    rw [← htk, List.getElem?_take] at hj
    split at hj
    · simpa using hj
    · cases hj
/-- What a new block holds, as a slice of all of it. -/
theorem Sn.new (w : World) (cs : Array Value) (t : TypeId) (s n : Nat) (hs : cs.size = n * s) : Sn (w.alloc (.cells cs t)) s (.slice (some ⟨w.heap.size, 0, none⟩) n n) n cs.toList := by
  refine ⟨_, n, rfl, Nat.le_refl _, by simpa using hs, fun _ => ⟨w.heap.size, 0, rfl, fun j u hj => ?_⟩⟩
  rw [cell_of_row _ w.heap.size (0 + j) cs t (0, 0) (heap_alloc_new w _), Nat.zero_add]
  simpa using hj

theorem Sn.newAt (w : World) (cs : Array Value) (t : TypeId) (s n g : Nat) (hs : cs.size = n * s) (hg : w.heap.size = g) : Sn (w.alloc (.cells cs t)) s (.slice (some ⟨g, 0, none⟩) n n) n cs.toList := by
  subst hg
  exact Sn.new w cs t s n hs
/-- A new block of capacity n, owned, with nothing in it. -/
theorem own_new (w : World) (cs : Array Value) (e s cap base g : Nat) (hb : base ≤ w.heap.size) (hs : cs.size = cap * s) (hm : cap ≤ maxLen) (hg : w.heap.size = g) : (w.alloc (.cells cs e)).ownsRow base e s (.slice (some ⟨g, 0, none⟩) 0 cap) 0 [] := by
  subst hg
  exact World.ownsRow_made w cs cap hb hm hs
theorem own_below {w w' : World} {base e s n : Nat} {v : Value} {xs : List Value} (h : w.ownsRow base e s v n xs) (hb : Below w.heap.size w w') : w'.ownsRow base e s v n xs := by
  refine ⟨h.1, ?_⟩
  have hlt := h.lt
  rcases h.2 with h2 | ⟨g, cap, cur, rfl, hg, hh, r⟩
  · exact .inl h2
  · exact .inr ⟨g, cap, cur, rfl, hg, by rw [hb.block g (hlt g rfl).2]; exact hh, r⟩
theorem own_base {w : World} {base base' e s n : Nat} {v : Value} {xs : List Value} (h : w.ownsRow base e s v n xs) (hb : base' ≤ base) : w.ownsRow base' e s v n xs := by
  refine ⟨h.1, ?_⟩
  rcases h.2 with h2 | ⟨g, cap, cur, rfl, hg, r⟩
  · exact .inl h2
  · exact .inr ⟨g, cap, cur, rfl, Nat.le_trans hb hg, r⟩

/-- The table's facts on a slice type t of elements of type e: cells and bytes of an element. -/
structure SlT (P : Program) (t e s bytes : Nat) : Prop where
  ht : P.underlying t = some (.slice e)
  hi : ∃ i z, P.info? e = some i ∧ i.zero = some z ∧ i.size = s ∧ i.bytes = bytes ∧ z.cells.size = s
  hs : 0 < s
theorem SlT.mk' {P : Program} {t e s bytes : Nat} {z : Value} (ht : P.underlying t = some (.slice e)) (h : (P.info? e).map (fun i => (i.zero, i.size, i.bytes)) = some (some z, s, bytes)) (hz : z.cells.size = s) (hs : 0 < s) : SlT P t e s bytes := by
  obtain ⟨i, h1, h2, h3, h4⟩ := info_parts h
  exact ⟨ht, ⟨i, z, h1, h2, h3, h4, hz⟩, hs⟩

section
variable {P : Program} {w : World}
theorem run_append_none {t ty e s bytes : Nat} (T : SlT P t e s bytes) {base n : Nat} {v : Value} {xs : List Value} (hown : w.ownsRow base e s v n xs) (c : Nat) :
    (Builtin.append_ #[t, t] ty #[v, .slice none 0 c]).run P w = .ok v w := by
  obtain ⟨i, z, hi, hz, hsi, hby, hzs⟩ := T.hi
  rcases hown.2 with ⟨rfl, rfl⟩ | ⟨g, cap, cur, rfl, _, _, hnc, _⟩
  · simp [Builtin.append_, run_underlying T.ht, sizeOf, typeInfo, hi, Builtin.lenOf, Builtin.firstCells]
  · simp [Builtin.append_, run_underlying T.ht, sizeOf, typeInfo, hi, Builtin.lenOf, Builtin.firstCells, hnc, storeCells]
theorem run_append_zero {t ty e s bytes : Nat} (T : SlT P t e s bytes) {base n : Nat} {v : Value} {xs : List Value} (hown : w.ownsRow base e s v n xs) (a : Addr) (c : Nat) :
    (Builtin.append_ #[t, t] ty #[v, .slice (some a) 0 c]).run P w = .ok v w := by
  obtain ⟨i, z, hi, hz, hsi, hby, hzs⟩ := T.hi
  rcases hown.2 with ⟨rfl, rfl⟩ | ⟨g, cap, cur, rfl, _, _, hnc, _⟩
  · simp [Builtin.append_, run_underlying T.ht, sizeOf, typeInfo, hi, Builtin.lenOf, Builtin.firstCells, loadCells, loadCellsFrom]
  · simp [Builtin.append_, run_underlying T.ht, sizeOf, typeInfo, hi, Builtin.lenOf, Builtin.firstCells, hnc, storeCells, loadCells, loadCellsFrom]

/-- append onto a row of the call's own, the source any slice. -/
theorem run_append_sn {t ty e s bytes : Nat} (T : SlT P t e s bytes) {base n m : Nat} {v x : Value} {xs news : List Value} (hown : w.ownsRow base e s v n xs) (hx : Sn w s x m news)
    (h1 : ∀ u ∈ news, u.oneCell' = true) (h63 : n + m ≤ maxLen) (hbytes : (n + m) * bytes ≤ 140737488355328) (hbase : base ≤ w.heap.size) :
    ∃ v' w', (Builtin.append_ #[t, t] ty #[v, x]).run P w = .ok v' w' ∧ w'.ownsRow base e s v' (n + m) (xs ++ news) ∧ w.grownBy w' v.ownBlock ∧ (v'.ownBlock = v.ownBlock ∨ v'.ownBlock = some w.heap.size) := by
  obtain ⟨A, c, rfl, hmc, hl, hcell⟩ := hx
  rcases Nat.eq_zero_or_pos m with rfl | hm
  · have hn : news = [] := List.eq_nil_of_length_eq_zero (by simpa using hl)
    subst hn
    refine ⟨v, w, ?_, by simpa using hown, World.grownBy.refl w _, .inl rfl⟩
    cases A with
    | none => exact run_append_none T hown c
    | some a => exact run_append_zero T hown a c
  · obtain ⟨b, off, rfl, hc⟩ := hcell hm
    obtain ⟨i, z, hi, hz, hsi, hby, hzs⟩ := T.hi
    obtain ⟨v', w', h2, h3, h4, _, h5⟩ := run_append_own_at (P := P) w base t ty e i z s bytes T.ht hi hz hsi hby hzs T.hs v n xs hown ⟨b, off, none⟩ m c news hl (fun j u hj => by
      have := hc j u hj
      rw [Addr.add_lit]; exact this) h1 h63 hbytes hbase
    exact ⟨v', w', h2, h3, h4, h5⟩

/-- The same, for the walk: offered behind 'at_builtin'. -/
theorem app {ops : Array Oper} {rest : List Oper} {o : Oper} {a : Act} {Q : Exit → Act → World → Prop} {t e s bytes : Nat} (T : SlT P t e s bytes) (p q : Operand)
    (ho : o.op = .call { callee := .builtin .append, args := #[p, q], argTypes := #[t, t] }) (hw : Region.wanted o (yielded ops a.tmps) = true)
    {base n m : Nat} {v x : Value} {xs news : List Value} (hv : a.eval p = v) (hown : w.ownsRow base e s v n xs) (hxv : a.eval q = x) (hx : Sn w s x m news)
    (h1 : ∀ u ∈ news, u.oneCell' = true) (h63 : n + m ≤ maxLen) (hbytes : (n + m) * bytes ≤ 140737488355328) (hbase : base ≤ w.heap.size)
    (h : ∀ v' w', w'.ownsRow base e s v' (n + m) (xs ++ news) → w.grownBy w' v.ownBlock → (v'.ownBlock = v.ownBlock ∨ v'.ownBlock = some w.heap.size) → wpList P ops Q rest (a.put o.dst v') w') :
    wpList P ops Q (o :: rest) a w := by
  refine wpList_step fun K hK => ?_
  rw [if_pos hw]
  obtain ⟨v', w', hrun, h2, h3, h4⟩ := run_append_sn (ty := o.type) T hown hx h1 h63 hbytes hbase
  unfold Oper.wp execOp
  simp only [ho, resolve, invoke, builtin, Sem.run_bind, Sem.run_pure, Result.andThen_ok, List.map_toArray, List.map_cons, List.map_nil, hv, hxv, hrun]
  exact hK _ _ (h v' w' h2 h3 h4)
end
end Go.Proofs.YtombncedfleljaaGreat
namespace Go.Proofs.YtombncedfleljaaGreat
open Go.RowKit

def u8s (l : List Int) : List Value := l.map (Value.int .u8)
structure DigOk (d : List Int) : Prop where
  len : d.length = 32
  byte : ∀ b ∈ d, 0 ≤ b ∧ b ≤ 255
def isI64 (n : Int) : Prop := -9223372036854775808 ≤ n ∧ n ≤ 9223372036854775807
theorem isI64_of {n : Int} (h : (Lit.int .i64 n).wf = true) : isI64 n := by
  simp [Lit.wf, IntKind.min, IntKind.max, IntKind.signed, IntKind.bits] at h
  unfold isI64
  omega
theorem wf_i64 {n : Int} (h : isI64 n) : (Lit.int .i64 n).wf = true := by
  unfold isI64 at h
  simp [Lit.wf, IntKind.min, IntKind.max, IntKind.signed, IntKind.bits]
  omega
def entC (d : List Int) (t : Int) : List Value := u8s d ++ [.int .i64 t]
theorem entC_length {d : List Int} (h : DigOk d) (t : Int) : (entC d t).length = 33 := by simp [entC, u8s, h.len]
theorem entC_one (d : List Int) (t : Int) : (entC d t).toArray.all (·.oneCell') = true := by
  refine all_oneCell_toArray fun v hv => ?_
  simp [entC, u8s] at hv
  rcases hv with ⟨_, _, rfl⟩ | rfl <;> rfl
theorem u8s_one (d : List Int) : (u8s d).toArray.all (·.oneCell') = true := by
  refine all_oneCell_toArray fun v hv => ?_
  simp [u8s] at hv
  obtain ⟨_, _, rfl⟩ := hv
  rfl
def entP (p : List Int × Int) : List Value := entC p.1 p.2
structure EntOk (p : List Int × Int) : Prop where
  dig : DigOk p.1
  exp : isI64 p.2
theorem entP_length (p : List Int × Int) (h : EntOk p) : (entP p).length = 33 := entC_length h.dig _
def Bys (l : List Int) : Prop := ∀ b ∈ l, 0 ≤ b ∧ b ≤ 255
theorem u8s_length (l : List Int) : (u8s l).length = l.length := by simp [u8s]
theorem u8s_mem (l : List Int) : ∀ u ∈ u8s l, u.oneCell' = true := fun u hu => by
  simp only [u8s, List.mem_map] at hu
  obtain ⟨_, _, rfl⟩ := hu
  rfl
theorem u8s_append (a b : List Int) : u8s (a ++ b) = u8s a ++ u8s b := by simp [u8s]
theorem u8s_take (a : List Int) (k : Nat) : u8s (a.take k) = (u8s a).take k := by simp [u8s, List.map_take]
theorem u8s_drop (a : List Int) (k : Nat) : u8s (a.drop k) = (u8s a).drop k := by simp [u8s, List.map_drop]
theorem u8s_get (a : List Int) (k : Nat) (h : k < a.length) : (u8s a)[k]? = some (.int .u8 a[k]) := by simp [u8s, h]
/-- The part of a slice between two places. -/
theorem Sn.sliced {w : World} {s n : Nat} {A : Option Addr} {cap : Nat} {xs : List Value} (h : Sn w s (.slice A n cap) n xs) (i j m : Nat) (hij : i ≤ j) (hj : j ≤ n) (hm : j ≤ m) : Sn w s (sliced A i j m s) (j - i) ((xs.take (j * s)).drop (i * s)) := by
  obtain ⟨A', cap', hv, hcap, hl, hx⟩ := h
  injection hv with hA _ _
  subst hA
  have hjs : j * s ≤ n * s := Nat.mul_le_mul_right s hj
  have hlen : ((xs.take (j * s)).drop (i * s)).length = (j - i) * s := by rw [List.length_drop, List.length_take, Nat.sub_mul]; omega
  unfold Go.sliced
  refine ⟨_, _, rfl, by omega, hlen, fun hp => ?_⟩
  obtain ⟨b, off, rfl, hcell⟩ := hx (by omega)
  rw [if_neg (by omega)]
  refine ⟨b, off + i * s, by simp [Addr.add_mid], fun k u hk => ?_⟩
  rw [List.getElem?_drop, List.getElem?_take] at hk
  split at hk
  · have := hcell _ _ hk
    rw [← Nat.add_assoc] at this
    exact this
  · cases hk
end Go.Proofs.YtombncedfleljaaGreat
namespace Go.Proofs.YtombncedfleljaaGreat
open Go.RowKit

theorem mapM_of {α β : Type} {f : α → Option β} {g : α → β} : ∀ {L : List α}, (∀ x ∈ L, f x = some (g x)) → L.mapM f = some (L.map g)
  | [], _ => rfl
  | x :: L, h => by
    rw [List.mapM_cons, h x (by simp), mapM_of (fun y hy => h y (by simp [hy]))]
    rfl
theorem lits_u8 (D : Nat) (n : Int) (h : 0 ≤ n ∧ n ≤ 255) : Tryz.prog.keyLits (D + 1) 5 [.int .u8 n] = some [.int .u8 n] := by
  unfold Program.keyLits
  rw [Tryz.underlying5]
  have : (Lit.int .u8 n).wf = true := by simp [Lit.wf, IntKind.min, IntKind.max, IntKind.signed, IntKind.bits]; omega
  simp [this]
theorem lits_dig (D : Nat) {d : List Int} (h : DigOk d) : Tryz.prog.keyLits (D + 2) 33 (u8s d) = some (d.map (Lit.int .u8)) := by
  have hc : Tryz.prog.cellsOf 33 = 32 := by kernel_rfl
  have hc1 : Tryz.prog.cellsOf 5 = 1 := by kernel_rfl
  have hl : (u8s d).length = 32 := by simp [u8s, h.len]
  unfold Program.keyLits
  rw [Tryz.underlying33]
  simp only [hc, hl, hc1, if_true, Nat.mul_one]
  rw [mapM_of (g := fun i => [Lit.int .u8 (d.getD i 0)]) (fun i hi => ?_)]
  · simp only [Option.map_some, Option.some.injEq]
    have hfl : ((List.range 32).map fun i => [Lit.int .u8 (d.getD i 0)]).flatten = (List.range 32).map fun i => Lit.int .u8 (d.getD i 0) := by
      rw [← List.flatMap_def, ← List.map_eq_flatMap]
    rw [hfl]
    apply List.ext_getElem
    · simp [h.len]
    · intro i h1 h2
      have hi : i < 32 := by simpa [h.len] using h2
      simp [show i < d.length by rw [h.len]; exact hi]
  · have hi : i < 32 := by simpa using hi
    have hlt : i < d.length := by rw [h.len]; exact hi
    have e : ((u8s d).drop i).take 1 = [.int .u8 (d.getD i 0)] := by
      have hlt' : i < (u8s d).length := by rw [hl]; exact hi
      rw [List.drop_eq_getElem_cons hlt']
      simp [u8s, hlt]
    rw [e]
    exact lits_u8 D _ (h.byte _ (by simp [hlt]))
theorem lits_ent {p : List Int × Int} (hp : EntOk p) : Tryz.prog.keyLits 3 35 (entP p) = some (p.1.map (Lit.int .u8) ++ [Lit.int .i64 p.2]) := by
  have hc : Tryz.prog.cellsOf 35 = 33 := by kernel_rfl
  have hc1 : Tryz.prog.cellsOf 33 = 32 := by kernel_rfl
  have hc2 : Tryz.prog.cellsOf 2 = 1 := by kernel_rfl
  have hl := entP_length p hp
  have h32 : (u8s p.1).length = 32 := by simp [u8s, hp.dig.len]
  have e1 : (entP p).take 32 = u8s p.1 := by unfold entP entC; rw [List.take_append_of_le_length (by omega), List.take_of_length_le (by omega)]
  have e2 : ((entP p).drop 32).take 1 = [.int .i64 p.2] := by unfold entP entC; rw [List.drop_append_of_le_length (by omega), List.drop_of_length_le (by omega)]; rfl
  have k2 : Tryz.prog.keyLits 2 2 [.int .i64 p.2] = some [Lit.int .i64 p.2] := by
    unfold Program.keyLits
    rw [Tryz.underlying2]
    simp [wf_i64 hp.exp]
  unfold Program.keyLits
  rw [Tryz.underlying35]
  simp [hc, hl, hc1, hc2, e1, e2, lits_dig 0 hp.dig, k2]
theorem lits_inj {p q : List Int × Int} (h : p.1.map (Lit.int .u8) ++ [Lit.int .i64 p.2] = q.1.map (Lit.int .u8) ++ [Lit.int .i64 q.2]) : p = q := by
  have h1 := List.append_inj' h rfl
  have h2 : p.1 = q.1 := by
    have key : ∀ a b : List Int, a.map (Lit.int .u8) = b.map (Lit.int .u8) → a = b := by
      intro a
      induction a with
      | nil => intro b hb; cases b with
        | nil => rfl
        | cons => simp at hb
      | cons x a ih => intro b hb; cases b with
        | nil => simp at hb
        | cons y b =>
          simp only [List.map_cons, List.cons.injEq, Lit.int.injEq, true_and] at hb
          rw [hb.1, ih b hb.2]
    exact key _ _ h1.1
  have h3 : p.2 = q.2 := by simpa using h1.2
  exact Prod.ext h2 h3
set_option maxRecDepth 100000 in
theorem run_eqE {p q : List Int × Int} (hp : EntOk p) (hq : EntOk q) (w : World) : (Op.equalIn 10000 35 (.agg (entP p).toArray) (.agg (entP q).toArray)).run Tryz.prog w = .ok (decide (p = q)) w := by
  have hu := Tryz.underlying35
  have hc : Tryz.prog.cellsOf 35 = 33 := by kernel_rfl
  have form : ∀ x : List Int × Int, EntOk x → Value.formed Tryz.prog 35 (.agg (entP x).toArray) = true := fun x hx => by
    unfold Value.formed
    rw [hu]
    simp [hc, entP_length x hx]
  have cells : ∀ x : List Int × Int, (Value.agg (entP x).toArray).cells.toList = entP x := fun x => by
    show (entP x).toArray.toList = _
    simp
  obtain ⟨r, hr, hiff⟩ := run_equalIn_deep (P := Tryz.prog) 9997 3 35 (by kernel_rfl) w 3 3 (.agg (entP p).toArray) (.agg (entP q).toArray) _ _ (form p hp) (form q hq) (by rw [cells]; exact lits_ent hp) (by rw [cells]; exact lits_ent hq)
  rw [hr]
  congr 1
  by_cases h : p = q
  · subst h
    simpa using hiff.2 rfl
  · have : ¬ r = true := fun e => h (lits_inj (hiff.1 e))
    simpa [h] using this
end Go.Proofs.YtombncedfleljaaGreat
namespace Go.Proofs.YtombncedfleljaaGreat
set_option maxRecDepth 100000
open Go.RowKit

def dv (d : List Int) : Value := .agg (u8s d).toArray
def dk (d : List Int) : Lit := .string (keyBytes (d.map (Lit.int .u8)))

theorem arrKey : WideMaps.ArrKey Tryz.prog 33 5 32 := ⟨Tryz.underlying33, by kernel_rfl, by kernel_rfl, by kernel_rfl⟩
theorem keyed : Maps.Keyed Tryz.prog 33 := Maps.Keyed.of_law arrKey.law
theorem mapM_at {α β : Type} {f : α → Option β} : ∀ {L : List α} {r : List β}, L.mapM f = some r → r.length = L.length ∧ ∀ (i : Nat) (hi : i < L.length), ∃ y, r[i]? = some y ∧ f L[i] = some y
  | [], r, h => by
    obtain rfl : r = [] := by simpa using h.symm
    exact ⟨rfl, fun i hi => by simp at hi⟩
  | x :: L, r, h => by
    rw [List.mapM_cons] at h
    cases hx : f x with
    | none => rw [hx] at h; simp at h
    | some y =>
      cases hL : L.mapM f with
      | none => rw [hx, hL] at h; simp at h
      | some r' =>
        rw [hx, hL] at h
        obtain rfl : y :: r' = r := by simpa using h
        obtain ⟨h1, h2⟩ := mapM_at hL
        refine ⟨by simp [h1], fun i hi => ?_⟩
        cases i with
        | zero => exact ⟨y, rfl, hx⟩
        | succ i => exact h2 i (by simpa using hi)
theorem lits_u8_inv (D : Nat) (c : List Value) (l : List Lit) (h : Tryz.prog.keyLits D 5 c = some l) : ∃ n : Int, (0 ≤ n ∧ n ≤ 255) ∧ c = [.int .u8 n] ∧ l = [.int .u8 n] := by
  cases D with
  | zero => simp [Program.keyLits] at h
  | succ D =>
    unfold Program.keyLits at h
    rw [Tryz.underlying5] at h
    rcases c with _ | ⟨v, _ | ⟨v2, c⟩⟩
    · simp at h
    · cases v <;> simp at h
      rename_i q n
      obtain ⟨⟨rfl, hw⟩, rfl⟩ := h
      have hb : 0 ≤ n ∧ n ≤ 255 := by
        have := hw
        simp [Lit.wf, IntKind.min, IntKind.max, IntKind.signed, IntKind.bits] at this
        omega
      exact ⟨n, hb, rfl, rfl⟩
    · cases v <;> simp at h
theorem keyOf_mk {d : List Int} (h : DigOk d) : keyOf Tryz.prog 33 (dv d) = some (dk d) := by
  have hkt : Tryz.prog.keyType 33 = true := by kernel_rfl
  have hc : Tryz.prog.cellsOf 33 = 32 := by kernel_rfl
  have hc1 : Tryz.prog.cellsOf 5 = 1 := by kernel_rfl
  obtain ⟨m, hm⟩ : ∃ m, Tryz.prog.types.size = m + 1 := ⟨Tryz.prog.types.size - 1, by kernel_rfl⟩
  have hl : (u8s d).length = 32 := by simp [u8s, h.len]
  have hf : (dv d).formed Tryz.prog 33 = true := by
    unfold dv Value.formed
    rw [Tryz.underlying33]
    simp [hc, hl]
  unfold keyOf
  rw [Tryz.underlying33]
  simp only [hkt, hf, Bool.and_self, if_true]
  have key : Tryz.prog.keyLits (Tryz.prog.types.size + 1) 33 (u8s d) = some (d.map (Lit.int .u8)) := by
    unfold Program.keyLits
    rw [Tryz.underlying33]
    simp only [hc, hl, hc1, if_true, Nat.mul_one]
    rw [mapM_of (g := fun i => [Lit.int .u8 (d.getD i 0)]) (fun i hi => ?_)]
    · simp only [Option.map_some, Option.some.injEq]
      have hfl : ((List.range 32).map fun i => [Lit.int .u8 (d.getD i 0)]).flatten = (List.range 32).map fun i => Lit.int .u8 (d.getD i 0) := by
        rw [← List.flatMap_def, ← List.map_eq_flatMap]
      rw [hfl]
      apply List.ext_getElem
      · simp [h.len]
      · intro i h1 h2
        have hi : i < 32 := by simpa [h.len] using h2
        simp [show i < d.length by rw [h.len]; exact hi]
    · have hi : i < 32 := by simpa using hi
      have hlt : i < d.length := by rw [h.len]; exact hi
      have e : ((u8s d).drop i).take 1 = [.int .u8 (d.getD i 0)] := by
        have hlt' : i < (u8s d).length := by rw [hl]; exact hi
        rw [List.drop_eq_getElem_cons hlt']
        simp [u8s, hlt]
      rw [e, hm]
      exact lits_u8 m _ (h.byte _ (by simp [hlt]))
  show ((Tryz.prog.keyLits (Tryz.prog.types.size + 1) 33 (u8s d).toArray.toList).map fun ls => Lit.string (keyBytes ls)) = _
  rw [List.toList_toArray, key]
  rfl
theorem keyOf_inv {v : Value} {kl : Lit} (h : keyOf Tryz.prog 33 v = some kl) : ∃ d, DigOk d ∧ v = dv d ∧ kl = dk d := by
  have h0 := h
  have hc : Tryz.prog.cellsOf 33 = 32 := by kernel_rfl
  have hc1 : Tryz.prog.cellsOf 5 = 1 := by kernel_rfl
  unfold keyOf at h
  rw [Tryz.underlying33] at h
  dsimp only at h
  split at h
  · rename_i hh
    obtain ⟨_, hf⟩ := (Bool.and_eq_true _ _).mp hh
    obtain ⟨cs, rfl⟩ : ∃ cs, v = .agg cs := by
      cases v <;> simp [Value.formed, Tryz.underlying33] at hf ⊢
    cases hl : Tryz.prog.keyLits (Tryz.prog.types.size + 1) 33 (Value.agg cs).cells.toList with
    | none => rw [hl] at h; simp at h
    | some ls =>
      have hcs : (Value.agg cs).cells.toList = cs.toList := rfl
      rw [hcs] at hl
      unfold Program.keyLits at hl
      rw [Tryz.underlying33] at hl
      dsimp only at hl
      split at hl
      · rename_i hlen
        rw [hc] at hlen
        rw [hc1] at hl
        cases hm : (List.range 32).mapM fun i => Tryz.prog.keyLits Tryz.prog.types.size 5 ((cs.toList.drop (i * 1)).take 1) with
        | none => rw [hm] at hl; simp at hl
        | some r =>
          obtain ⟨_, hat⟩ := mapM_at hm
          have hcell : ∀ (i : Nat) (hi : i < cs.toList.length), ∃ n : Int, (0 ≤ n ∧ n ≤ 255) ∧ cs.toList[i] = .int .u8 n := by
            intro i hi
            obtain ⟨y, _, hy⟩ := hat i (by simpa [hlen] using hi)
            obtain ⟨n, hn, hc2, _⟩ := lits_u8_inv _ _ _ hy
            rw [List.getElem_range, Nat.mul_one, List.drop_eq_getElem_cons hi] at hc2
            exact ⟨n, hn, by simpa using hc2⟩
          obtain ⟨d, hd, hdb⟩ : ∃ d : List Int, cs.toList = u8s d ∧ ∀ b ∈ d, 0 ≤ b ∧ b ≤ 255 := by
            have key : ∀ l : List Value, (∀ (i : Nat) (hi : i < l.length), ∃ n : Int, (0 ≤ n ∧ n ≤ 255) ∧ l[i] = .int .u8 n) → ∃ d : List Int, l = u8s d ∧ ∀ b ∈ d, 0 ≤ b ∧ b ≤ 255 := by
              intro l
              induction l with
              | nil => exact fun _ => ⟨[], rfl, fun b hb => by simp at hb⟩
              | cons c l ih =>
                intro hl
                obtain ⟨n, hn, hcn⟩ := hl 0 (by simp)
                have hcn : c = .int .u8 n := hcn
                subst hcn
                obtain ⟨d, rfl, hd⟩ := ih (fun i hi => hl (i + 1) (by simpa using hi))
                exact ⟨n :: d, rfl, fun b hb => by
                  rcases List.mem_cons.1 hb with rfl | hb
                  · exact hn
                  · exact hd b hb⟩
            exact key _ hcell
          have hdo : DigOk d := ⟨by have := congrArg List.length hd; simp [u8s] at this; rw [← this]; simpa using hlen, hdb⟩
          have hv : Value.agg cs = dv d := by unfold dv; rw [← hd]
          refine ⟨d, hdo, hv, ?_⟩
          rw [hv, keyOf_mk hdo] at h0
          exact (Option.some.inj h0).symm
      · cases hl
  · cases h
theorem dk_inj {d d' : List Int} (h : DigOk d) (h' : DigOk d') (e : dk d = dk d') : d = d' := by
  have hv := keyed.inj (keyOf_mk h) (by rw [keyOf_mk h', e])
  have h1 : (u8s d).toArray = (u8s d').toArray := Value.agg.inj hv
  have h2 : u8s d = u8s d' := by simpa using h1
  have key : ∀ a b : List Int, u8s a = u8s b → a = b := by
    intro a
    induction a with
    | nil => intro b hb; cases b with
      | nil => rfl
      | cons => simp [u8s] at hb
    | cons x a ih => intro b hb; cases b with
      | nil => simp [u8s] at hb
      | cons y b =>
        simp only [u8s, List.map_cons, List.cons.injEq, Value.int.injEq, true_and] at hb
        obtain ⟨rfl, hb⟩ := hb
        rw [ih b hb]
  exact key _ _ h2
theorem dk_key (d : List Int) : WideAt.IsKeyLit (dk d) := trivial
end Go.Proofs.YtombncedfleljaaGreat
namespace Go.Proofs.YtombncedfleljaaGreat
set_option maxRecDepth 100000
open Go.RowKit

noncomputable def R64 : Value → Option (DataW Unit × List MemPlace) := plainElem Tryz.prog 2
def Fits (D : DataW Unit) (f : List Int → Option Int) (c : Nat) : Prop :=
  Maps.size D = c ∧ ∀ d, DigOk d → match f d with
    | none => Maps.has D (dk d) = false
    | some t => isI64 t ∧ Maps.has D (dk d) = true ∧ ∀ z, D.atKey (dk d) z = .lit (.int .i64 t)
/-- Block b is a map of c digests, of room n, that holds f. -/
def DM (w : World) (b n : Nat) (f : List Int → Option Int) (c : Nat) : Prop := ∃ D, w.ownsMap Tryz.prog 33 R64 b n D ∧ Fits D f c
def upd (f : List Int → Option Int) (d : List Int) (t : Int) : List Int → Option Int := fun x => if x = d then some t else f x
def cut (f : List Int → Option Int) (d : List Int) : List Int → Option Int := fun x => if x = d then none else f x
theorem DM.le {w : World} {b n c : Nat} {f : List Int → Option Int} (h : DM w b n f c) : c ≤ n := by
  obtain ⟨D, h, hs, _⟩ := h
  rw [← hs]; exact h.size_le
theorem DM.i64 {w : World} {b n c : Nat} {f : List Int → Option Int} (h : DM w b n f c) {d : List Int} {t : Int} (hd : DigOk d) (hf : f d = some t) : isI64 t := by
  obtain ⟨D, _, _, h⟩ := h
  have := h d hd
  rw [hf] at this
  exact this.1
theorem DM.lt {w : World} {b n c : Nat} {f : List Int → Option Int} (h : DM w b n f c) : b < w.heap.size := by
  obtain ⟨D, ⟨es, clock, hb, _⟩, _⟩ := h
  rcases Nat.lt_or_ge b w.heap.size with hlt | hge
  · exact hlt
  · rw [Array.getElem?_eq_none hge] at hb; cases hb
theorem DM.of_block {w w' : World} {b n c : Nat} {f : List Int → Option Int} (h : DM w b n f c) (e : w'.heap[b]? = w.heap[b]?) : DM w' b n f c := by
  obtain ⟨D, ⟨es, clock, hb, r⟩, hf⟩ := h
  exact ⟨D, ⟨es, clock, e.trans hb, r⟩, hf⟩
theorem DM.keep {w w' : World} {b n c : Nat} {f : List Int → Option Int} (h : DM w b n f c) (hb : Below w.heap.size w w') : DM w' b n f c := h.of_block (hb.block b h.lt)
theorem DM.mono {w : World} {b n m c : Nat} {f : List Int → Option Int} (h : DM w b n f c) (hm : n ≤ m) : DM w b m f c := by
  obtain ⟨D, ⟨es, clock, hb, h1, h2, h3⟩, hf⟩ := h
  exact ⟨D, ⟨es, clock, hb, h1, Nat.le_trans h2 hm, h3⟩, hf⟩
theorem DM.made (w : World) : DM (w.alloc (.map #[] 0)) w.heap.size 0 (fun _ => none) 0 :=
  ⟨.map [], World.ownsMap_made _ _ _ _, rfl, fun _ _ => rfl⟩
theorem Fits.put {D : DataW Unit} {f : List Int → Option Int} {c : Nat} (h : Fits D f c) (hD : Maps.Tidy D) {d : List Int} (hd : DigOk d) {t : Int} (ht : isI64 t) :
    Fits (D.put (dk d) (.lit (.int .i64 t))) (upd f d t) (if (f d).isSome then c else c + 1) := by
  obtain ⟨hs, hf⟩ := h
  have hhas : Maps.has D (dk d) = (f d).isSome := by
    have := hf d hd
    cases hfd : f d with
    | none => rw [hfd] at this; exact this
    | some t => rw [hfd] at this; exact this.2.1
  refine ⟨by rw [Maps.size_put hD, hhas, hs], fun x hx => ?_⟩
  unfold upd
  by_cases hxd : x = d
  · subst hxd
    rw [if_pos rfl]
    exact ⟨ht, Maps.has_put_same hD.isMap (dk_key x) _, fun z => Maps.atKey_put_same hD.isMap (dk_key x) _ z⟩
  · rw [if_neg hxd]
    have hne : dk x ≠ dk d := fun e => hxd (dk_inj hx hd e)
    have := hf x hx
    cases hfx : f x with
    | none => rw [hfx] at this; exact (Maps.has_put_other hne _).trans this
    | some t' =>
      rw [hfx] at this
      exact ⟨this.1, (Maps.has_put_other hne _).trans this.2.1, fun z => (Maps.atKey_put_other hne _ z).trans (this.2.2 z)⟩
theorem Fits.del {D : DataW Unit} {f : List Int → Option Int} {c : Nat} (h : Fits D f c) (hD : Maps.Tidy D) {d : List Int} (hd : DigOk d) :
    ∃ c', Fits (D.del (dk d)) (cut f d) c' ∧ c' + (if (f d).isSome then 1 else 0) = c := by
  obtain ⟨hs, hf⟩ := h
  have hhas : Maps.has D (dk d) = (f d).isSome := by
    have := hf d hd
    cases hfd : f d with
    | none => rw [hfd] at this; exact this
    | some t => rw [hfd] at this; exact this.2.1
  refine ⟨_, ⟨rfl, fun x hx => ?_⟩, by rw [← hhas, Maps.size_del hD, hs]⟩
  unfold cut
  by_cases hxd : x = d
  · subst hxd
    rw [if_pos rfl]
    exact Maps.has_del_same
  · rw [if_neg hxd]
    have hne : dk x ≠ dk d := fun e => hxd (dk_inj hx hd e)
    have := hf x hx
    cases hfx : f x with
    | none => rw [hfx] at this; exact (Maps.has_del_other hne).trans this
    | some t' =>
      rw [hfx] at this
      exact ⟨this.1, (Maps.has_del_other hne).trans this.2.1, fun z => (Maps.atKey_del_other hne z).trans (this.2.2 z)⟩
theorem Fits.has {D : DataW Unit} {f : List Int → Option Int} {c : Nat} (h : Fits D f c) {d : List Int} (hd : DigOk d) : Maps.has D (dk d) = (f d).isSome := by
  have := h.2 d hd
  cases hfd : f d with
  | none => rw [hfd] at this; exact this
  | some t => rw [hfd] at this; exact this.2.1

theorem DM.look {w : World} {b n c : Nat} {f : List Int → Option Int} {tM : TypeId} (ht : Tryz.prog.underlying tM = some (.map 33 2)) (h : DM w b n f c) {d : List Int} (hd : DigOk d) :
    (Instr.lookup tM (.map (some b)) (.agg (u8s d).toArray) true).run Tryz.prog w = .ok (.tuple #[.int .i64 ((f d).getD 0), .bool (f d).isSome]) w := by
  obtain ⟨D, hown, hf⟩ := h
  obtain ⟨v, ps, hrun, hv⟩ := hown.look_ok keyed ht (z := .int .i64 0) (by kernel_rfl) (zd := .lit (.int .i64 0)) (zp := []) (plainElem_int Tryz.underlying2 (by decide)) (keyOf_mk hd)
  obtain ⟨x, rfl, hx, _⟩ := plainElem_int_inv Tryz.underlying2 hv
  have hx := congrArg Prod.fst hx
  dsimp only at hx
  rw [hf.has hd] at hrun
  have := hf.2 d hd
  cases hfd : f d with
  | none =>
    rw [hfd] at this hrun
    rw [Maps.atKey_of_not_has this] at hx
    obtain rfl : x = 0 := by simpa using hx.symm
    exact hrun
  | some t =>
    rw [hfd] at this hrun
    rw [this.2.2] at hx
    obtain rfl : x = t := by simpa using hx.symm
    exact hrun

theorem DM.put_run {w : World} {b n c : Nat} {f : List Int → Option Int} {tM : TypeId} (ht : Tryz.prog.underlying tM = some (.map 33 2)) (h : DM w b n f c) {d : List Int} (hd : DigOk d) {t : Int} (hti : isI64 t) (hn : n < maxLen) :
    ∃ w', (Instr.mapUpdate tM (.map (some b)) (.agg (u8s d).toArray) (.int .i64 t)).run Tryz.prog w = .ok () w' ∧ DM w' b (n + 1) (upd f d t) (if (f d).isSome then c else c + 1) ∧ w.grownBy w' (some b) := by
  obtain ⟨D, hown, hf⟩ := h
  obtain ⟨w', hrun, h', hg'⟩ := hown.update keyed ht hn (keyOf_mk hd) (val := .int .i64 t) (d := .lit (.int .i64 t)) (ps := []) (plainElem_int Tryz.underlying2 (wf_i64 hti))
  exact ⟨w', hrun, ⟨_, h', hf.put (hown.tidy keyed) hd hti⟩, hg'⟩

/-- 'range' under way: 'left' tells which digests are still to come. -/
def DR (w : World) (b r n : Nat) (f : List Int → Option Int) (c : Nat) (left : List Int → Bool) (cnt : Nat) : Prop :=
  ∃ D l, w.ranges Tryz.prog 33 R64 b r n D l cnt ∧ Fits D f c ∧ ∀ d, DigOk d → l (dk d) = left d
theorem DR.owns {w : World} {b r n c cnt : Nat} {f : List Int → Option Int} {left : List Int → Bool} (h : DR w b r n f c left cnt) : DM w b n f c := by
  obtain ⟨D, l, h, hf, _⟩ := h
  exact ⟨D, h.owns, hf⟩
theorem DR.of_blocks {w w' : World} {b r n c cnt : Nat} {f : List Int → Option Int} {left : List Int → Bool} (h : DR w b r n f c left cnt) (e : w'.heap[b]? = w.heap[b]?) (e' : w'.heap[r]? = w.heap[r]?) : DR w' b r n f c left cnt := by
  obtain ⟨D, l, ⟨es, clock, since, seen, c0, hb, h1, h2, h3, hr, h4⟩, hf⟩ := h
  exact ⟨D, l, ⟨es, clock, since, seen, c0, e.trans hb, h1, h2, h3, e'.trans hr, h4⟩, hf⟩
theorem DR.lt {w : World} {b r n c cnt : Nat} {f : List Int → Option Int} {left : List Int → Bool} (h : DR w b r n f c left cnt) : r < w.heap.size ∧ r ≠ b := by
  obtain ⟨D, l, h, _⟩ := h
  exact ⟨h.lt, h.ne⟩
theorem DR.keep {w w' : World} {b r n c cnt : Nat} {f : List Int → Option Int} {left : List Int → Bool} (h : DR w b r n f c left cnt) (hb : Below w.heap.size w w') : DR w' b r n f c left cnt :=
  h.of_blocks (hb.block b h.owns.lt) (hb.block r h.lt.1)

theorem DR.left_eq {w : World} {b r n c cnt : Nat} {f : List Int → Option Int} {left : List Int → Bool} (h : DR w b r n f c left cnt) : w.rangeLeft b r = cnt := by
  obtain ⟨D, l, h, _⟩ := h
  exact h.left_eq
theorem DM.congr {w : World} {b n c : Nat} {f f' : List Int → Option Int} (h : DM w b n f c) (e : ∀ d, DigOk d → f d = f' d) : DM w b n f' c := by
  obtain ⟨D, h, hs, hf⟩ := h
  exact ⟨D, h, hs, fun d hd => by rw [← e d hd]; exact hf d hd⟩

section
variable {ops : Array Oper} {rest : List Oper} {o : Oper} {a : Act} {w : World} {Q : Exit → Act → World → Prop} {tM : TypeId} (ht : Tryz.prog.underlying tM = some (.map 33 2))
include ht
theorem dLook (hg : o.guard = none) (m x : Operand) (hop : o.op = Op.lookup tM m x true) {b n c : Nat} {f : List Int → Option Int} (hm : a.eval m = .map (some b)) (h : DM w b n f c) {d : List Int} (hd : DigOk d) (hx : a.eval x = dv d)
    (hK : wpList Tryz.prog ops Q rest (a.put o.dst (.tuple #[.int .i64 ((f d).getD 0), .bool (f d).isSome])) w) : wpList Tryz.prog ops Q (o :: rest) a w := by
  obtain ⟨D, hown, hf⟩ := h
  refine wpList_lookup_own_ok_int w hg m x tM hop 33 2 .i64 keyed ht Tryz.underlying2 (by kernel_rfl) b n D hm hown (dv d) (dk d) hx (keyOf_mk hd) fun v hv _ => ?_
  rw [hf.has hd]
  have := hf.2 d hd
  cases hfd : f d with
  | none =>
    rw [hfd] at this hK
    rw [Maps.atKey_of_not_has this] at hv
    obtain rfl : v = 0 := by simpa using hv.symm
    exact hK
  | some t =>
    rw [hfd] at this hK
    rw [this.2.2] at hv
    obtain rfl : v = t := by simpa using hv.symm
    exact hK
theorem dPut (hg : o.guard = none) (m x v : Operand) (hop : o.op = Op.mapUpdate tM m x v) {b n c : Nat} {f : List Int → Option Int} (hm : a.eval m = .map (some b)) (h : DM w b n f c) {d : List Int} (hd : DigOk d) (hx : a.eval x = dv d)
    {t : Int} (hv : a.eval v = .int .i64 t) (hti : isI64 t) (hn : n < maxLen)
    (hK : ∀ w', DM w' b (n + 1) (upd f d t) (if (f d).isSome then c else c + 1) → w.grownBy w' (some b) → wpList Tryz.prog ops Q rest (a.put o.dst undef) w') : wpList Tryz.prog ops Q (o :: rest) a w := by
  obtain ⟨D, hown, hf⟩ := h
  refine wpList_mapUpdate_own w hg m x v tM hop 33 2 keyed ht R64 b n D hm hown hn (dv d) (.int .i64 t) (dk d) hx hv (keyOf_mk hd) (.lit (.int .i64 t)) [] (plainElem_int Tryz.underlying2 (wf_i64 hti)) fun w' h' hg' => ?_
  exact hK w' ⟨_, h', hf.put (hown.tidy keyed) hd hti⟩ hg'
theorem dLen (hg : o.guard = none) (m : Operand) (hop : o.op = Op.call { callee := Callee.builtin Builtin.len, args := #[m], argTypes := #[tM] }) {b n c : Nat} {f : List Int → Option Int} (hm : a.eval m = .map (some b)) (h : DM w b n f c)
    (hK : wpList Tryz.prog ops Q rest (a.put o.dst (.int .i64 c)) w) : wpList Tryz.prog ops Q (o :: rest) a w := by
  obtain ⟨D, hown, hf⟩ := h
  refine wpList_len_own w hg m tM hop 33 2 ht R64 b n D hm hown ?_
  rw [hf.1]
  exact hK
theorem dRange (hg : o.guard = none) (m : Operand) (hop : o.op = Op.range tM m) {b n c : Nat} {f : List Int → Option Int} (hm : a.eval m = .map (some b)) (h : DM w b n f c)
    (hK : ∀ w', DR w' b w.heap.size n f c (fun d => (f d).isSome) c → w.grownBy w' none → w'.heap.size = w.heap.size + 1 → wpList Tryz.prog ops Q rest (a.put o.dst (.pointer (some ⟨w.heap.size, 0, none⟩))) w') : wpList Tryz.prog ops Q (o :: rest) a w := by
  obtain ⟨D, hown, hf⟩ := h
  refine wpList_range_own w hg m tM hop 33 2 keyed ht R64 b n D hm hown fun w' h' hg' hs' => ?_
  rw [hf.1] at h'
  exact hK w' ⟨D, _, h', hf, fun d hd => hf.has hd⟩ hg' hs'
omit ht in
theorem dNext (hg : o.guard = none) (it : Operand) (hop : o.op = Op.next it false) {b r n c cnt : Nat} {f : List Int → Option Int} {left : List Int → Bool} (hit : a.eval it = .pointer (some ⟨r, 0, none⟩)) (h : DR w b r n f c left cnt)
    (hDone : cnt = 0 → (∀ d, DigOk d → left d = false) → wpList Tryz.prog ops Q rest (a.put o.dst (.tuple #[.bool false])) w)
    (hMore : ∀ (d : List Int) (t : Int) (w' : World) (cnt' : Nat), DigOk d → isI64 t → left d = true → f d = some t → DR w' b r n f c (fun x => left x && !(x == d)) cnt' → cnt' < cnt → w.grownBy w' (some r) → w'.heap.size = w.heap.size →
      (Instr.entry (.pointer (some ⟨r, 0, none⟩))).run Tryz.prog w' = .ok (.tuple #[.agg (u8s d).toArray, .int .i64 t]) w' → wpList Tryz.prog ops Q rest (a.put o.dst (.tuple #[.bool true, .agg (u8s d).toArray, .int .i64 t])) w') : wpList Tryz.prog ops Q (o :: rest) a w := by
  obtain ⟨D, l, hr, hf, hl⟩ := h
  refine wpList_next_ranges w hg it hop 33 keyed R64 dv (Value.int .i64) (fun key kl hk => ?_) (fun v y hv => ?_) b r n D l cnt hit hr (fun h0 hall => hDone h0 fun d hd => by rw [← hl d hd]; exact hall _) fun d t kl y w' cnt' hkey hlk hv hat hr' hlt hg' hs' hen => ?_
  · obtain ⟨d, _, rfl, _⟩ := keyOf_inv hk
    exact ⟨d, rfl⟩
  · obtain ⟨t, rfl, _⟩ := plainElem_int_inv Tryz.underlying2 hv
    exact ⟨t, rfl⟩
  · obtain ⟨d', hd, hdd, rfl⟩ := keyOf_inv hkey
    obtain rfl : d = d' := by
      have h1 : (u8s d).toArray = (u8s d').toArray := Value.agg.inj hdd
      have h2 : u8s d = u8s d' := by simpa using h1
      have := congrArg (List.map fun v : Value => match v with | .int _ n => n | _ => 0) h2
      simpa [u8s, Function.comp_def] using this
    obtain ⟨t', ht', hy, hw⟩ := plainElem_int_inv Tryz.underlying2 hv
    obtain rfl : t = t' := by simpa using ht'
    subst hy
    have hfd : f d = some t := by
      have := hf.2 d hd
      cases hfd : f d with
      | none =>
        rw [hfd] at this
        have h1 := hat .nil
        rw [Maps.atKey_of_not_has this] at h1
        cases h1
      | some t' =>
        rw [hfd] at this
        have h1 := (hat .nil).symm.trans (this.2.2 .nil)
        obtain rfl : t = t' := by simpa using h1
        rfl
    refine hMore d t w' cnt' hd (isI64_of hw) (by rw [← hl d hd]; exact hlk) hfd ⟨D, _, hr', hf, fun x hx => ?_⟩ hlt hg' hs' hen
    show (l (dk x) && !(dk x).sameKey (dk d)) = _
    rw [hl x hx]
    by_cases hxd : x = d
    · subst hxd
      simp [WideAt.sameKey_self (dk_key x)]
    · rw [Maps.sameKey_ne (fun e => hxd (dk_inj hx hd e))]
      simp [hxd]
theorem dDel (hg : o.guard = none) (m x : Operand) (hop : o.op = Op.call { callee := Callee.builtin Builtin.delete, args := #[m, x], argTypes := #[tM, 33] }) {b r n c cnt : Nat} {f : List Int → Option Int} {left : List Int → Bool}
    (hm : a.eval m = .map (some b)) (h : DR w b r n f c left cnt) {d : List Int} (hd : DigOk d) (hx : a.eval x = dv d)
    (hK : ∀ w' c' cnt', DR w' b r n (cut f d) c' (fun x => left x && !(x == d)) cnt' → c' + (if (f d).isSome then 1 else 0) = c → cnt' ≤ cnt → w.mapTurned w' b → wpList Tryz.prog ops Q rest (a.put o.dst (.tuple #[])) w') : wpList Tryz.prog ops Q (o :: rest) a w := by
  obtain ⟨D, l, hr, hf, hl⟩ := h
  refine wpList_delete_ranges w hg m x tM 33 hop 2 keyed ht R64 b r n D l cnt hm hr (dv d) (dk d) hx (keyOf_mk hd) fun w' cnt' hr' hle hturn => ?_
  obtain ⟨c', hf', hc'⟩ := hf.del (hr.owns.tidy keyed) hd
  refine hK w' c' cnt' ⟨_, _, hr', hf', fun x hx => ?_⟩ hc' hle hturn
  show (l (dk x) && !(dk x).sameKey (dk d)) = _
  rw [hl x hx]
  by_cases hxd : x = d
  · subst hxd
    simp [WideAt.sameKey_self (dk_key x)]
  · rw [Maps.sameKey_ne (fun e => hxd (dk_inj hx hd e))]
    simp [hxd]
/-- .. inside a region that draws its order. -/
theorem stepDel {K : Act → World → Prop} {E : Prop} (m x : Operand) (hop : o.op = Op.call { callee := Callee.builtin Builtin.delete, args := #[m, x], argTypes := #[tM, 33] }) (hw : Region.wanted o (yielded ops a.tmps) = true) {b r n c cnt : Nat} {f : List Int → Option Int} {left : List Int → Bool}
    (hm : a.eval m = .map (some b)) (h : DR w b r n f c left cnt) {d : List Int} (hd : DigOk d) (hx : a.eval x = .agg (u8s d).toArray)
    (hK : ∀ w' c' cnt', DR w' b r n (cut f d) c' (fun x => left x && !(x == d)) cnt' → c' + (if (f d).isSome then 1 else 0) = c → cnt' ≤ cnt → w.mapTurned w' b → K (a.put o.dst (.tuple #[])) w') :
    if Region.wanted o (yielded ops a.tmps) = true then Oper.wp Tryz.prog o a w K Q else E := by
  rw [if_pos hw]
  obtain ⟨D, l, hr, hf, hl⟩ := h
  obtain ⟨w', cnt', hrun, hr', hle, hturn⟩ := hr.drop keyed ht (keyOf_mk hd) o.type
  obtain ⟨c', hf', hc'⟩ := hf.del (hr.owns.tidy keyed) hd
  have hx' : a.eval x = dv d := hx
  unfold Oper.wp
  simp [execOp, hop, resolve, invoke, builtin, hm, hx', hrun, Result.andThen]
  refine hK w' c' cnt' ⟨_, _, hr', hf', fun x hx => ?_⟩ hc' hle hturn
  show (l (dk x) && !(dk x).sameKey (dk d)) = _
  rw [hl x hx]
  by_cases hxd : x = d
  · subst hxd
    simp [WideAt.sameKey_self (dk_key x)]
  · rw [Maps.sameKey_ne (fun e => hxd (dk_inj hx hd e))]
    simp [hxd]
end
end Go.Proofs.YtombncedfleljaaGreat
namespace Go.Proofs.YtombncedfleljaaGreat
open Go.RowKit
section
variable {P : Program}

theorem setRow_alloc (w : World) (old cells : Array Value) (t : TypeId) : (w.alloc (.cells old t)).setRow w.heap.size cells = w.alloc (.cells cells t) := by
  simp only [World.setRow, World.alloc]
  congr 1
  apply Array.ext
  · simp
  · intro i h1 h2
    simp only [Array.getElem_modify]
    split
    · subst_vars; simp
    · rw [Array.getElem_push, Array.getElem_push]
      have : i < w.heap.size := by simp at h2; omega
      simp [this]

/-- A row loaded from the middle of a block. -/
theorem ld {ops : Array Oper} {rest : List Oper} {o : Oper} {a : Act} {w : World} {Q : Exit → Act → World → Prop} (ty : TypeId) (x : Operand) (ho : o.op = .load ty x) (hw : Region.wanted o (yielded ops a.tmps) = true)
    {b off : Nat} (hx : a.eval x = .pointer (some ⟨b, off, none⟩)) {cs : List Value} {d : TypeDesc} (hc : w.rangeAt b off cs)
    (hu : P.underlying ty = some d) (hd : d.isRow = true) (hi : (P.info? ty).map (·.size) = some cs.length)
    (h : wpList P ops Q rest (a.put o.dst (.agg cs.toArray)) w) : wpList P ops Q (o :: rest) a w :=
  wpList_step fun K hK => by
    rw [if_pos hw]
    exact wp_load_mid ty x ho b off hx cs d hc hu hd hi (hK _ _ h)

/-- A row stored into the block that was made last. -/
theorem stNew {ops : Array Oper} {rest : List Oper} {o : Oper} {a : Act} {w : World} {Q : Exit → Act → World → Prop} (ty : TypeId) (x y : Operand) (ho : o.op = .store ty x y) (hw : Region.wanted o (yielded ops a.tmps) = true)
    {old cells : Array Value} {t : TypeId} (hx : a.eval x = .pointer (some ⟨w.heap.size, 0, none⟩)) (hy : a.eval y = .agg cells)
    (hi : (P.info? ty).map (·.size) = some cells.size) (hold : old.size = cells.size) (h1 : cells.all (·.oneCell') = true)
    (h : ∀ w2, w2.heap[w.heap.size]? = some (.cells cells t (0, 0)) → Below w.heap.size w w2 → w2.heap.size = w.heap.size + 1 → wpList P ops Q rest (a.put o.dst undef) w2) :
    wpList P ops Q (o :: rest) a (w.alloc (.cells old t)) :=
  wpList_step fun K hK => by
    rw [if_pos hw]
    refine wp_store_row ty x y ho w.heap.size cells hx hy t old (heap_alloc_new w _) hi hold h1 ?_
    rw [setRow_alloc]
    exact hK _ _ (h _ (heap_alloc_new w _) ((Below.refl _ _).alloc (Nat.le_refl _) _) (by simp))
theorem cell_blk {w : World} {g : Nat} {cs : Array Value} {t : TypeId} (h : w.heap[g]? = some (.cells cs t (0, 0))) (i : Nat) : w.cell? ⟨g, i, none⟩ = cs[i]? := cell_of_row w g i cs t (0, 0) h
theorem frozen_blk {w : World} {g : Nat} {cs : Array Value} {t : TypeId} (h : w.heap[g]? = some (.cells cs t (0, 0))) (i : Nat) : w.frozen? ⟨g, i, none⟩ = false := frozen_of_row w g i cs t h
end

/-- An element of a slice of elements of s cells, as a range of cells. -/
theorem Sn.range {w : World} {s n cap : Nat} {A : Option Addr} {xs : List Value} (h : Sn w s (.slice A n cap) n xs) (k : Nat) (hk : k < n) :
    ∃ b off, A = some ⟨b, off, none⟩ ∧ w.rangeAt b (off + k * s) ((xs.drop (k * s)).take s) := by
  obtain ⟨A', cap', hv, hc, hl, hx⟩ := h
  injection hv with hA _ _
  subst hA
  obtain ⟨b, off, rfl, hcell⟩ := hx (by omega)
  refine ⟨b, off, rfl, fun j u hj => ?_⟩
  have hjs : j < s := by have := (List.getElem?_eq_some_iff.1 hj).1; simp at this; omega
  rw [List.getElem?_take, if_pos hjs, List.getElem?_drop] at hj
  have := hcell _ _ hj
  rw [show off + k * s + j = off + (k * s + j) from by omega]
  exact this
theorem flatMap_piece {α : Type} (f : α → List Value) (s : Nat) : ∀ (l : List α), (∀ x ∈ l, (f x).length = s) → ∀ k (hk : k < l.length), ((l.flatMap f).drop (k * s)).take s = f l[k]
  | [], _, k, hk => by simp at hk
  | x :: l, h, 0, _ => by
    have hx := h x (by simp)
    simp only [List.flatMap_cons, Nat.zero_mul, List.drop_zero, List.getElem_cons_zero]
    rw [List.take_append_of_le_length (by omega), List.take_of_length_le (by omega)]
  | x :: l, h, k + 1, hk => by
    have hx := h x (by simp)
    simp only [List.flatMap_cons, List.getElem_cons_succ]
    rw [Nat.add_mul, Nat.one_mul, List.drop_append, List.drop_eq_nil_of_le (by omega), List.nil_append, hx, Nat.add_sub_cancel]
    exact flatMap_piece f s l (fun y hy => h y (by simp [hy])) k (by simpa using hk)
theorem flatMap_len {α : Type} (f : α → List Value) (s : Nat) : ∀ (l : List α), (∀ x ∈ l, (f x).length = s) → (l.flatMap f).length = l.length * s
  | [], _ => by simp
  | x :: l, h => by
    rw [List.flatMap_cons, List.length_append, h x (by simp), flatMap_len f s l (fun y hy => h y (by simp [hy])), List.length_cons, Nat.add_mul, Nat.one_mul, Nat.add_comm]
end Go.Proofs.YtombncedfleljaaGreat
namespace Go.Proofs.YtombncedfleljaaGreat
open Go.RowKit
def Blk (w : World) (g : Nat) (t : TypeId) (cs : Array Value) : Prop := w.heap[g]? = some (.cells cs t (0, 0))
section
variable {w w' : World} {g : Nat} {t : TypeId} {cs : Array Value}
theorem Blk.lt (h : Blk w g t cs) : g < w.heap.size := by
  rcases Nat.lt_or_ge g w.heap.size with hlt | hge
  · exact hlt
  · unfold Blk at h; rw [Array.getElem?_eq_none hge] at h; cases h
theorem Blk.cell (h : Blk w g t cs) (i : Nat) : w.cell? ⟨g, i, none⟩ = cs[i]? := cell_of_row w g i cs t (0, 0) h
theorem Blk.frozen (h : Blk w g t cs) (i : Nat) : w.frozen? ⟨g, i, none⟩ = false := by
  unfold Blk at h
  simp [World.frozen?, h]
theorem Blk.new (w : World) (t : TypeId) (cs : Array Value) : Blk (w.alloc (.cells cs t)) w.heap.size t cs := heap_alloc_new w _
theorem Blk.newAt (w : World) (t : TypeId) (cs : Array Value) (g : Nat) (hg : w.heap.size = g) : Blk (w.alloc (.cells cs t)) g t cs := by subst hg; exact heap_alloc_new w _
theorem Blk.drewN (h : Blk w g t cs) (n : Nat) : Blk (w.drewN n) g t cs := h
theorem Blk.alloc (h : Blk w g t cs) (o : Obj) : Blk (w.alloc o) g t cs := (Below.heap_alloc w o g h.lt).trans h
theorem Blk.set_ (h : Blk w g t cs) (i : Nat) (u : Value) : Blk (w.setCell ⟨g, i, none⟩ u) g t (cs.setIfInBounds i u) := by
  unfold Blk at h ⊢
  simp [World.setCell, Array.getElem?_modify, h]
theorem Blk.far (h : Blk w g t cs) {p : Addr} (hp : g ≠ p.block) (u : Value) : Blk (w.setCell p u) g t cs := (Below.heap_setCell w p u g hp).trans h
theorem Blk.below {B : Nat} (h : Blk w g t cs) (hb : Below B w w') (hg : g < B) : Blk w' g t cs := (hb.block g hg).trans h
theorem Blk.keep (h : Blk w g t cs) (hb : Below w.heap.size w w') : Blk w' g t cs := h.below hb h.lt
theorem Blk.range (h : Blk w g t cs) : w.rangeAt g 0 cs.toList := fun j u hj => by
  rw [Nat.zero_add, h.cell j]; simpa using hj
end
/-- A whole row stored into a known block. -/
theorem stBlk {P : Program} {ops : Array Oper} {rest : List Oper} {o : Oper} {a : Act} {w : World} {Q : Exit → Act → World → Prop} (ty : TypeId) (x y : Operand) (ho : o.op = .store ty x y) (hw : Region.wanted o (yielded ops a.tmps) = true)
    {g t : Nat} {old cells : Array Value} (hx : a.eval x = .pointer (some ⟨g, 0, none⟩)) (hy : a.eval y = .agg cells) (hB : Blk w g t old)
    (hi : (P.info? ty).map (·.size) = some cells.size) (hold : old.size = cells.size) (h1 : cells.all (·.oneCell') = true)
    (h : ∀ w2, Blk w2 g t cells → Below g w w2 → (∀ g', g' ≠ g → w2.heap[g']? = w.heap[g']?) → w2.heap.size = w.heap.size → wpList P ops Q rest (a.put o.dst undef) w2) :
    wpList P ops Q (o :: rest) a w :=
  wpList_step fun K hK => by
    rw [if_pos hw]
    refine wp_store_row ty x y ho g cells hx hy t old hB hi hold h1 ?_
    refine hK _ _ (h _ (setRow_heap w g old cells t (0, 0) hB) ⟨rfl, rfl, rfl, by simp, fun k hk => setRow_other w g k cells (by omega)⟩ (fun g' hg => setRow_other w g g' cells hg) (by simp))
/-- All blocks but b are as they were. -/
structure Off (b : Nat) (w w' : World) : Prop where
  os : w'.os = w.os
  tape : w'.tape = w.tape
  output : w'.output = w.output
  size : w.heap.size ≤ w'.heap.size
  block : ∀ k, k < w.heap.size → k ≠ b → w'.heap[k]? = w.heap[k]?
theorem Off.of_below {b : Nat} {w w' : World} (h : Below w.heap.size w w') : Off b w w' := ⟨h.os, h.tape, h.output, h.size, fun k hk _ => h.block k hk⟩
theorem Off.refl (b : Nat) (w : World) : Off b w w := ⟨rfl, rfl, rfl, Nat.le_refl _, fun _ _ _ => rfl⟩
theorem Off.trans {b : Nat} {x y z : World} (h : Off b x y) (k : Off b y z) : Off b x z :=
  ⟨k.os.trans h.os, k.tape.trans h.tape, k.output.trans h.output, Nat.le_trans h.size k.size, fun i hi hne => (k.block i (Nat.lt_of_lt_of_le hi h.size) hne).trans (h.block i hi hne)⟩
theorem Off.of_grown {b : Nat} {w w' : World} (h : w.grownBy w' (some b)) : Off b w w' := ⟨h.os, h.tape, h.output, h.size, fun k hk hne => h.block k hk (fun e => hne (Option.some.inj e))⟩
theorem Off.cell {b : Nat} {w w' : World} (h : Off b w w') {a : Addr} {v : Value} (hc : w.cell? a = some v) (hne : a.block ≠ b) : w'.cell? a = some v := by
  have := h.block a.block (cell_lt hc) hne
  unfold World.cell? at hc ⊢
  rw [this]; exact hc
theorem Off.below {b B : Nat} {w w' : World} (h : Off b w w') (hB : B ≤ b) (hs : B ≤ w.heap.size) : Below B w w' := ⟨h.os, h.tape, h.output, h.size, fun k hk => h.block k (by omega) (by omega)⟩
theorem Off.blk {b : Nat} {w w' : World} (h : Off b w w') {g : Nat} {t : TypeId} {cs : Array Value} (hB : Blk w g t cs) (hne : g ≠ b) : Blk w' g t cs := (h.block g hB.lt hne).trans hB

theorem Off.set {b : Nat} {w w' : World} (h : Off b w w') (i : Nat) (u : Value) : Off b w (w'.setCell ⟨b, i, none⟩ u) :=
  ⟨h.os, h.tape, h.output, by simpa using h.size, fun k hk hne => (Below.heap_setCell w' ⟨b, i, none⟩ u k hne).trans (h.block k hk hne)⟩
theorem Off.drew {b : Nat} {w w' : World} (h : Off b w w') : Off b w w'.drew := ⟨h.os, h.tape, h.output, h.size, h.block⟩
theorem Off.drewN {b : Nat} {w w' : World} (h : Off b w w') (n : Nat) : Off b w (w'.drewN n) := ⟨h.os, h.tape, h.output, h.size, h.block⟩
end Go.Proofs.YtombncedfleljaaGreat
