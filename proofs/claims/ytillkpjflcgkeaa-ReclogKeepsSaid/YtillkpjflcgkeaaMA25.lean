/- Parts: append onto a row of the call's own: the old slice reads on as it did. A slice literal of one row. No program is named here. -/
import Derived.Test.YtillkpjflcgkeaaMA24
import Derived.Test.YtillkpjflcgkeaaMA17
import Derived.Test.YtillkpjflcgkeaaMA1
namespace Go.Proofs.Ytillkpjflcgkeaa
open Go.RowKit
set_option linter.unusedSimpArgs false
section
variable {P : Program} {w : World}
theorem run_append_keep {t ty e s bytes : Nat} (T : SlT P t e s bytes) {base n m : Nat} {v x : Value} {xs news : List Value} (hown : w.ownsRow base e s v n xs) (hx : Sn w s x m news) (hm : 0 < m)
    (h1 : ∀ u ∈ news, u.oneCell' = true) (h63 : n + m ≤ maxLen) (hbytes : (n + m) * bytes ≤ 140737488355328) (hbase : base ≤ w.heap.size) :
    ∃ v' w', (Builtin.append_ #[t, t] ty #[v, x]).run P w = .ok v' w' ∧ w'.ownsRow base e s v' (n + m) (xs ++ news) ∧ w.grownBy w' v.ownBlock ∧ (v'.ownBlock = v.ownBlock ∨ v'.ownBlock = some w.heap.size) ∧ Sn w' s v n xs := by
  obtain ⟨v', w', hrun, ho, hg, hb⟩ := run_append_sn (ty := ty) T hown hx h1 h63 hbytes hbase
  refine ⟨v', w', hrun, ho, hg, hb, ?_⟩
  have hs0 := Sn.own hown
  rcases hown.2 with ⟨rfl, rfl⟩ | ⟨g, cap, cur, rfl, _, hgb, hnc, _, hcs, _⟩
  · have hxs : xs = [] := List.eq_nil_of_length_eq_zero (by simpa using hown.1)
    subst hxs
    exact ⟨none, 0, rfl, Nat.le_refl _, by simp, fun h => absurd h (by omega)⟩
  · obtain ⟨i, z, hi, hz, hsi, hby, hzs⟩ := T.hi
    obtain ⟨A, c, rfl, _, hl, hcell⟩ := hx
    obtain ⟨b, off, rfl, hc⟩ := hcell hm
    have hnews : ∀ j u, news[j]? = some u → w.cell? ((⟨b, off, none⟩ : Addr).add j) = some u := fun j u hj => by rw [Addr.add_lit]; exact hc j u hj
    subst hsi
    by_cases hroom : n + m ≤ cap
    · have hfit : n * i.size + news.length ≤ cur.size := by rw [hl, hcs, ← Nat.add_mul]; exact Nat.mul_le_mul_right _ hroom
      have hr := run_append_room (P := P) w t ty e i T.ht hi g n cap cur hgb ⟨b, off, none⟩ m c news hl hnews h1 hroom hfit
      have he := hrun.symm.trans hr
      injection he with he1 he2
      rw [he1] at ho
      have h2 := (Sn.own ho).take n (by omega)
      rwa [List.take_append_of_le_length (by rw [hown.1]; exact Nat.le_refl _), List.take_of_length_le (by rw [hown.1]; exact Nat.le_refl _)] at h2
    · have hr := run_append_grow (P := P) w t ty e i z T.ht hi hz ⟨g, 0, none⟩ n cap xs hown.1 (hown.cells (g := g) rfl) ⟨b, off, none⟩ m c news hl hnews (by omega) (by unfold maxLen at h63; omega) (growslice_fits (by omega) (by rw [hby]; exact hbytes))
      have he := hrun.symm.trans hr
      injection he with he1 he2
      rw [he2]
      exact hs0.below (((Below.refl _ w).drew).alloc (Nat.le_refl _) _)
/-- The same, for the walk: offered behind 'at_builtin'. -/
theorem appK {ops : Array Oper} {rest : List Oper} {o : Oper} {a : Act} {Q : Exit → Act → World → Prop} {t e s bytes : Nat} (T : SlT P t e s bytes) (p q : Operand)
    (ho : o.op = .call { callee := .builtin .append, args := #[p, q], argTypes := #[t, t] }) (hw : Region.wanted o (yielded ops a.tmps) = true)
    {base n m : Nat} {v x : Value} {xs news : List Value} (hv : a.eval p = v) (hown : w.ownsRow base e s v n xs) (hxv : a.eval q = x) (hx : Sn w s x m news) (hm : 0 < m)
    (h1 : ∀ u ∈ news, u.oneCell' = true) (h63 : n + m ≤ maxLen) (hbytes : (n + m) * bytes ≤ 140737488355328) (hbase : base ≤ w.heap.size)
    (h : ∀ v' w', w'.ownsRow base e s v' (n + m) (xs ++ news) → w.grownBy w' v.ownBlock → (v'.ownBlock = v.ownBlock ∨ v'.ownBlock = some w.heap.size) → Sn w' s v n xs → wpList P ops Q rest (a.put o.dst v') w') :
    wpList P ops Q (o :: rest) a w := by
  refine wpList_step fun K hK => ?_
  rw [if_pos hw]
  obtain ⟨v', w', hrun, h2, h3, h4, h5⟩ := run_append_keep (ty := o.type) T hown hx hm h1 h63 hbytes hbase
  unfold Oper.wp execOp
  simp only [ho, resolve, invoke, builtin, Sem.run_bind, Sem.run_pure, Result.andThen_ok, List.map_toArray, List.map_cons, List.map_nil, hv, hxv, hrun]
  exact hK _ _ (h v' w' h2 h3 h4 h5)
end
end Go.Proofs.Ytillkpjflcgkeaa
