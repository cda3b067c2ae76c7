/- A map from digests to int64 that the call itself has made: what it holds, as a function; the walk's laws for its operations. -/
import Derived.Test.YtlhehnghplchfaaDig
namespace Go.Proofs.Ytlhehnghplchfaa
open Go.RowKit

def isI64 (n : Int) : Prop := -9223372036854775808 ≤ n ∧ n ≤ 9223372036854775807
theorem isI64_of {n : Int} (h : (Lit.int .i64 n).wf = true) : isI64 n := by
  simp [Lit.wf, IntKind.min, IntKind.max, IntKind.signed, IntKind.bits] at h
  unfold isI64
  omega
theorem wf_i64 {n : Int} (h : isI64 n) : (Lit.int .i64 n).wf = true := by
  unfold isI64 at h
  simp [Lit.wf, IntKind.min, IntKind.max, IntKind.signed, IntKind.bits]
  omega
noncomputable def R64 : Value → Option (DataW Unit × List MemPlace) := plainElem Try.prog 2
def Fits (D : DataW Unit) (f : List Int → Option Int) (c : Nat) : Prop :=
  Maps.size D = c ∧ ∀ d, DigOk d → match f d with
    | none => Maps.has D (dk d) = false
    | some t => isI64 t ∧ Maps.has D (dk d) = true ∧ ∀ z, D.atKey (dk d) z = .lit (.int .i64 t)
/-- Block b is a map of c digests, of room n, that holds f. -/
def DM (w : World) (b n : Nat) (f : List Int → Option Int) (c : Nat) : Prop := ∃ D, w.ownsMap Try.prog 26 R64 b n D ∧ Fits D f c
def upd (f : List Int → Option Int) (d : List Int) (t : Int) : List Int → Option Int := fun x => if x = d then some t else f x
def cut (f : List Int → Option Int) (d : List Int) : List Int → Option Int := fun x => if x = d then none else f x
theorem DM.le {w : World} {b n c : Nat} {f : List Int → Option Int} (h : DM w b n f c) : c ≤ n := by
  obtain ⟨D, h, hs, _⟩ := h
  rw [← hs]; exact h.size_le
theorem DM.i64 {w : World} {b n c : Nat} {f : List Int → Option Int} (h : DM w b n f c) {d : List Int} {t : Int} (hd : DigOk d) (hf : f d = some t) : isI64 t := by
  obtain ⟨D, _, _, h⟩ := h
  have := h d hd
  rw [hf] at this
  exact this.1
theorem DM.lt {w : World} {b n c : Nat} {f : List Int → Option Int} (h : DM w b n f c) : b < w.heap.size := by
  obtain ⟨D, ⟨es, clock, hb, _⟩, _⟩ := h
  rcases Nat.lt_or_ge b w.heap.size with hlt | hge
  · exact hlt
  · rw [Array.getElem?_eq_none hge] at hb; cases hb
theorem DM.of_block {w w' : World} {b n c : Nat} {f : List Int → Option Int} (h : DM w b n f c) (e : w'.heap[b]? = w.heap[b]?) : DM w' b n f c := by
  obtain ⟨D, ⟨es, clock, hb, r⟩, hf⟩ := h
  exact ⟨D, ⟨es, clock, e.trans hb, r⟩, hf⟩
theorem DM.keep {w w' : World} {b n c : Nat} {f : List Int → Option Int} (h : DM w b n f c) (hb : Below w.heap.size w w') : DM w' b n f c := h.of_block (hb.block b h.lt)
theorem DM.mono {w : World} {b n m c : Nat} {f : List Int → Option Int} (h : DM w b n f c) (hm : n ≤ m) : DM w b m f c := by
  obtain ⟨D, ⟨es, clock, hb, h1, h2, h3⟩, hf⟩ := h
  exact ⟨D, ⟨es, clock, hb, h1, Nat.le_trans h2 hm, h3⟩, hf⟩
theorem DM.made (w : World) : DM (w.alloc (.map #[] 0)) w.heap.size 0 (fun _ => none) 0 :=
  ⟨.map [], World.ownsMap_made _ _ _ _, rfl, fun _ _ => rfl⟩
theorem Fits.put {D : DataW Unit} {f : List Int → Option Int} {c : Nat} (h : Fits D f c) (hD : Maps.Tidy D) {d : List Int} (hd : DigOk d) {t : Int} (ht : isI64 t) :
    Fits (D.put (dk d) (.lit (.int .i64 t))) (upd f d t) (if (f d).isSome then c else c + 1) := by
  obtain ⟨hs, hf⟩ := h
  have hhas : Maps.has D (dk d) = (f d).isSome := by
    have := hf d hd
    cases hfd : f d with
    | none => rw [hfd] at this; exact this
    | some t => rw [hfd] at this; exact this.2.1
  refine ⟨by rw [Maps.size_put hD, hhas, hs], fun x hx => ?_⟩
  unfold upd
  by_cases hxd : x = d
  · subst hxd
    rw [if_pos rfl]
    exact ⟨ht, Maps.has_put_same hD.isMap (dk_key x) _, fun z => Maps.atKey_put_same hD.isMap (dk_key x) _ z⟩
  · rw [if_neg hxd]
    have hne : dk x ≠ dk d := fun e => hxd (dk_inj hx hd e)
    have := hf x hx
    cases hfx : f x with
    | none => rw [hfx] at this; exact (Maps.has_put_other hne _).trans this
    | some t' =>
      rw [hfx] at this
      exact ⟨this.1, (Maps.has_put_other hne _).trans this.2.1, fun z => (Maps.atKey_put_other hne _ z).trans (this.2.2 z)⟩
theorem Fits.del {D : DataW Unit} {f : List Int → Option Int} {c : Nat} (h : Fits D f c) (hD : Maps.Tidy D) {d : List Int} (hd : DigOk d) :
    ∃ c', Fits (D.del (dk d)) (cut f d) c' ∧ c' + (if (f d).isSome then 1 else 0) = c := by
  obtain ⟨hs, hf⟩ := h
  have hhas : Maps.has D (dk d) = (f d).isSome := by
    have := hf d hd
    cases hfd : f d with
    | none => rw [hfd] at this; exact this
    | some t => rw [hfd] at this; exact this.2.1
  refine ⟨_, ⟨rfl, fun x hx => ?_⟩, by rw [← hhas, Maps.size_del hD, hs]⟩
  unfold cut
  by_cases hxd : x = d
  · subst hxd
    rw [if_pos rfl]
    exact Maps.has_del_same
  · rw [if_neg hxd]
    have hne : dk x ≠ dk d := fun e => hxd (dk_inj hx hd e)
    have := hf x hx
    cases hfx : f x with
    | none => rw [hfx] at this; exact (Maps.has_del_other hne).trans this
    | some t' =>
      rw [hfx] at this
      exact ⟨this.1, (Maps.has_del_other hne).trans this.2.1, fun z => (Maps.atKey_del_other hne z).trans (this.2.2 z)⟩
theorem Fits.has {D : DataW Unit} {f : List Int → Option Int} {c : Nat} (h : Fits D f c) {d : List Int} (hd : DigOk d) : Maps.has D (dk d) = (f d).isSome := by
  have := h.2 d hd
  cases hfd : f d with
  | none => rw [hfd] at this; exact this
  | some t => rw [hfd] at this; exact this.2.1

theorem DM.look {w : World} {b n c : Nat} {f : List Int → Option Int} {tM : TypeId} (ht : Try.prog.underlying tM = some (.map 26 2)) (h : DM w b n f c) {d : List Int} (hd : DigOk d) :
    (Instr.lookup tM (.map (some b)) (.agg (u8s d).toArray) true).run Try.prog w = .ok (.tuple #[.int .i64 ((f d).getD 0), .bool (f d).isSome]) w := by
  obtain ⟨D, hown, hf⟩ := h
  obtain ⟨v, ps, hrun, hv⟩ := hown.look_ok keyed ht (z := .int .i64 0) (by kernel_rfl) (zd := .lit (.int .i64 0)) (zp := []) (plainElem_int Try.underlying2 (by decide)) (keyOf_mk hd)
  obtain ⟨x, rfl, hx, _⟩ := plainElem_int_inv Try.underlying2 hv
  have hx := congrArg Prod.fst hx
  dsimp only at hx
  rw [hf.has hd] at hrun
  have := hf.2 d hd
  cases hfd : f d with
  | none =>
    rw [hfd] at this hrun
    rw [Maps.atKey_of_not_has this] at hx
    obtain rfl : x = 0 := by simpa using hx.symm
    exact hrun
  | some t =>
    rw [hfd] at this hrun
    rw [this.2.2] at hx
    obtain rfl : x = t := by simpa using hx.symm
    exact hrun

theorem DM.put_run {w : World} {b n c : Nat} {f : List Int → Option Int} {tM : TypeId} (ht : Try.prog.underlying tM = some (.map 26 2)) (h : DM w b n f c) {d : List Int} (hd : DigOk d) {t : Int} (hti : isI64 t) (hn : n < maxLen) :
    ∃ w', (Instr.mapUpdate tM (.map (some b)) (.agg (u8s d).toArray) (.int .i64 t)).run Try.prog w = .ok () w' ∧ DM w' b (n + 1) (upd f d t) (if (f d).isSome then c else c + 1) ∧ w.grownBy w' (some b) := by
  obtain ⟨D, hown, hf⟩ := h
  obtain ⟨w', hrun, h', hg'⟩ := hown.update keyed ht hn (keyOf_mk hd) (val := .int .i64 t) (d := .lit (.int .i64 t)) (ps := []) (plainElem_int Try.underlying2 (wf_i64 hti))
  exact ⟨w', hrun, ⟨_, h', hf.put (hown.tidy keyed) hd hti⟩, hg'⟩

/-- 'range' under way: 'left' tells which digests are still to come. -/
def DR (w : World) (b r n : Nat) (f : List Int → Option Int) (c : Nat) (left : List Int → Bool) (cnt : Nat) : Prop :=
  ∃ D l, w.ranges Try.prog 26 R64 b r n D l cnt ∧ Fits D f c ∧ ∀ d, DigOk d → l (dk d) = left d
theorem DR.owns {w : World} {b r n c cnt : Nat} {f : List Int → Option Int} {left : List Int → Bool} (h : DR w b r n f c left cnt) : DM w b n f c := by
  obtain ⟨D, l, h, hf, _⟩ := h
  exact ⟨D, h.owns, hf⟩
theorem DR.of_blocks {w w' : World} {b r n c cnt : Nat} {f : List Int → Option Int} {left : List Int → Bool} (h : DR w b r n f c left cnt) (e : w'.heap[b]? = w.heap[b]?) (e' : w'.heap[r]? = w.heap[r]?) : DR w' b r n f c left cnt := by
  obtain ⟨D, l, ⟨es, clock, since, seen, c0, hb, h1, h2, h3, hr, h4⟩, hf⟩ := h
  exact ⟨D, l, ⟨es, clock, since, seen, c0, e.trans hb, h1, h2, h3, e'.trans hr, h4⟩, hf⟩
theorem DR.lt {w : World} {b r n c cnt : Nat} {f : List Int → Option Int} {left : List Int → Bool} (h : DR w b r n f c left cnt) : r < w.heap.size ∧ r ≠ b := by
  obtain ⟨D, l, h, _⟩ := h
  exact ⟨h.lt, h.ne⟩
theorem DR.keep {w w' : World} {b r n c cnt : Nat} {f : List Int → Option Int} {left : List Int → Bool} (h : DR w b r n f c left cnt) (hb : Below w.heap.size w w') : DR w' b r n f c left cnt :=
  h.of_blocks (hb.block b h.owns.lt) (hb.block r h.lt.1)

theorem DR.left_eq {w : World} {b r n c cnt : Nat} {f : List Int → Option Int} {left : List Int → Bool} (h : DR w b r n f c left cnt) : w.rangeLeft b r = cnt := by
  obtain ⟨D, l, h, _⟩ := h
  exact h.left_eq
theorem DM.congr {w : World} {b n c : Nat} {f f' : List Int → Option Int} (h : DM w b n f c) (e : ∀ d, DigOk d → f d = f' d) : DM w b n f' c := by
  obtain ⟨D, h, hs, hf⟩ := h
  exact ⟨D, h, hs, fun d hd => by rw [← e d hd]; exact hf d hd⟩

section
variable {ops : Array Oper} {rest : List Oper} {o : Oper} {a : Act} {w : World} {Q : Exit → Act → World → Prop} {tM : TypeId} (ht : Try.prog.underlying tM = some (.map 26 2))
include ht
theorem dLook (hg : o.guard = none) (m x : Operand) (hop : o.op = Op.lookup tM m x true) {b n c : Nat} {f : List Int → Option Int} (hm : a.eval m = .map (some b)) (h : DM w b n f c) {d : List Int} (hd : DigOk d) (hx : a.eval x = dv d)
    (hK : wpList Try.prog ops Q rest (a.put o.dst (.tuple #[.int .i64 ((f d).getD 0), .bool (f d).isSome])) w) : wpList Try.prog ops Q (o :: rest) a w := by
  obtain ⟨D, hown, hf⟩ := h
  refine wpList_lookup_own_ok_int w hg m x tM hop 26 2 .i64 keyed ht Try.underlying2 (by kernel_rfl) b n D hm hown (dv d) (dk d) hx (keyOf_mk hd) fun v hv _ => ?_
  rw [hf.has hd]
  have := hf.2 d hd
  cases hfd : f d with
  | none =>
    rw [hfd] at this hK
    rw [Maps.atKey_of_not_has this] at hv
    obtain rfl : v = 0 := by simpa using hv.symm
    exact hK
  | some t =>
    rw [hfd] at this hK
    rw [this.2.2] at hv
    obtain rfl : v = t := by simpa using hv.symm
    exact hK
theorem dPut (hg : o.guard = none) (m x v : Operand) (hop : o.op = Op.mapUpdate tM m x v) {b n c : Nat} {f : List Int → Option Int} (hm : a.eval m = .map (some b)) (h : DM w b n f c) {d : List Int} (hd : DigOk d) (hx : a.eval x = dv d)
    {t : Int} (hv : a.eval v = .int .i64 t) (hti : isI64 t) (hn : n < maxLen)
    (hK : ∀ w', DM w' b (n + 1) (upd f d t) (if (f d).isSome then c else c + 1) → w.grownBy w' (some b) → wpList Try.prog ops Q rest (a.put o.dst undef) w') : wpList Try.prog ops Q (o :: rest) a w := by
  obtain ⟨D, hown, hf⟩ := h
  refine wpList_mapUpdate_own w hg m x v tM hop 26 2 keyed ht R64 b n D hm hown hn (dv d) (.int .i64 t) (dk d) hx hv (keyOf_mk hd) (.lit (.int .i64 t)) [] (plainElem_int Try.underlying2 (wf_i64 hti)) fun w' h' hg' => ?_
  exact hK w' ⟨_, h', hf.put (hown.tidy keyed) hd hti⟩ hg'
theorem dLen (hg : o.guard = none) (m : Operand) (hop : o.op = Op.call { callee := Callee.builtin Builtin.len, args := #[m], argTypes := #[tM] }) {b n c : Nat} {f : List Int → Option Int} (hm : a.eval m = .map (some b)) (h : DM w b n f c)
    (hK : wpList Try.prog ops Q rest (a.put o.dst (.int .i64 c)) w) : wpList Try.prog ops Q (o :: rest) a w := by
  obtain ⟨D, hown, hf⟩ := h
  refine wpList_len_own w hg m tM hop 26 2 ht R64 b n D hm hown ?_
  rw [hf.1]
  exact hK
theorem dRange (hg : o.guard = none) (m : Operand) (hop : o.op = Op.range tM m) {b n c : Nat} {f : List Int → Option Int} (hm : a.eval m = .map (some b)) (h : DM w b n f c)
    (hK : ∀ w', DR w' b w.heap.size n f c (fun d => (f d).isSome) c → w.grownBy w' none → w'.heap.size = w.heap.size + 1 → wpList Try.prog ops Q rest (a.put o.dst (.pointer (some ⟨w.heap.size, 0, none⟩))) w') : wpList Try.prog ops Q (o :: rest) a w := by
  obtain ⟨D, hown, hf⟩ := h
  refine wpList_range_own w hg m tM hop 26 2 keyed ht R64 b n D hm hown fun w' h' hg' hs' => ?_
  rw [hf.1] at h'
  exact hK w' ⟨D, _, h', hf, fun d hd => hf.has hd⟩ hg' hs'
omit ht in
theorem dNext (hg : o.guard = none) (it : Operand) (hop : o.op = Op.next it false) {b r n c cnt : Nat} {f : List Int → Option Int} {left : List Int → Bool} (hit : a.eval it = .pointer (some ⟨r, 0, none⟩)) (h : DR w b r n f c left cnt)
    (hDone : cnt = 0 → (∀ d, DigOk d → left d = false) → wpList Try.prog ops Q rest (a.put o.dst (.tuple #[.bool false])) w)
    (hMore : ∀ (d : List Int) (t : Int) (w' : World) (cnt' : Nat), DigOk d → isI64 t → left d = true → f d = some t → DR w' b r n f c (fun x => left x && !(x == d)) cnt' → cnt' < cnt → w.grownBy w' (some r) → w'.heap.size = w.heap.size →
      (Instr.entry (.pointer (some ⟨r, 0, none⟩))).run Try.prog w' = .ok (.tuple #[.agg (u8s d).toArray, .int .i64 t]) w' → wpList Try.prog ops Q rest (a.put o.dst (.tuple #[.bool true, .agg (u8s d).toArray, .int .i64 t])) w') : wpList Try.prog ops Q (o :: rest) a w := by
  obtain ⟨D, l, hr, hf, hl⟩ := h
  refine wpList_next_ranges w hg it hop 26 keyed R64 dv (Value.int .i64) (fun key kl hk => ?_) (fun v y hv => ?_) b r n D l cnt hit hr (fun h0 hall => hDone h0 fun d hd => by rw [← hl d hd]; exact hall _) fun d t kl y w' cnt' hkey hlk hv hat hr' hlt hg' hs' hen => ?_
  · obtain ⟨d, _, rfl, _⟩ := keyOf_inv hk
    exact ⟨d, rfl⟩
  · obtain ⟨t, rfl, _⟩ := plainElem_int_inv Try.underlying2 hv
    exact ⟨t, rfl⟩
  · obtain ⟨d', hd, hdd, rfl⟩ := keyOf_inv hkey
    obtain rfl : d = d' := by
      have h1 : (u8s d).toArray = (u8s d').toArray := Value.agg.inj hdd
      have h2 : u8s d = u8s d' := by simpa using h1
      have := congrArg (List.map fun v : Value => match v with | .int _ n => n | _ => 0) h2
      simpa [u8s, Function.comp_def] using this
    obtain ⟨t', ht', hy, hw⟩ := plainElem_int_inv Try.underlying2 hv
    obtain rfl : t = t' := by simpa using ht'
    subst hy
    have hfd : f d = some t := by
      have := hf.2 d hd
      cases hfd : f d with
      | none =>
        rw [hfd] at this
        have h1 := hat .nil
        rw [Maps.atKey_of_not_has this] at h1
        cases h1
      | some t' =>
        rw [hfd] at this
        have h1 := (hat .nil).symm.trans (this.2.2 .nil)
        obtain rfl : t = t' := by simpa using h1
        rfl
    refine hMore d t w' cnt' hd (isI64_of hw) (by rw [← hl d hd]; exact hlk) hfd ⟨D, _, hr', hf, fun x hx => ?_⟩ hlt hg' hs' hen
    show (l (dk x) && !(dk x).sameKey (dk d)) = _
    rw [hl x hx]
    by_cases hxd : x = d
    · subst hxd
      simp [WideAt.sameKey_self (dk_key x)]
    · rw [Maps.sameKey_ne (fun e => hxd (dk_inj hx hd e))]
      simp [hxd]
theorem dDel (hg : o.guard = none) (m x : Operand) (hop : o.op = Op.call { callee := Callee.builtin Builtin.delete, args := #[m, x], argTypes := #[tM, 26] }) {b r n c cnt : Nat} {f : List Int → Option Int} {left : List Int → Bool}
    (hm : a.eval m = .map (some b)) (h : DR w b r n f c left cnt) {d : List Int} (hd : DigOk d) (hx : a.eval x = dv d)
    (hK : ∀ w' c' cnt', DR w' b r n (cut f d) c' (fun x => left x && !(x == d)) cnt' → c' + (if (f d).isSome then 1 else 0) = c → cnt' ≤ cnt → w.mapTurned w' b → wpList Try.prog ops Q rest (a.put o.dst (.tuple #[])) w') : wpList Try.prog ops Q (o :: rest) a w := by
  obtain ⟨D, l, hr, hf, hl⟩ := h
  refine wpList_delete_ranges w hg m x tM 26 hop 2 keyed ht R64 b r n D l cnt hm hr (dv d) (dk d) hx (keyOf_mk hd) fun w' cnt' hr' hle hturn => ?_
  obtain ⟨c', hf', hc'⟩ := hf.del (hr.owns.tidy keyed) hd
  refine hK w' c' cnt' ⟨_, _, hr', hf', fun x hx => ?_⟩ hc' hle hturn
  show (l (dk x) && !(dk x).sameKey (dk d)) = _
  rw [hl x hx]
  by_cases hxd : x = d
  · subst hxd
    simp [WideAt.sameKey_self (dk_key x)]
  · rw [Maps.sameKey_ne (fun e => hxd (dk_inj hx hd e))]
    simp [hxd]
/-- .. inside a region that draws its order. -/
theorem stepDel {K : Act → World → Prop} {E : Prop} (m x : Operand) (hop : o.op = Op.call { callee := Callee.builtin Builtin.delete, args := #[m, x], argTypes := #[tM, 26] }) (hw : Region.wanted o (yielded ops a.tmps) = true) {b r n c cnt : Nat} {f : List Int → Option Int} {left : List Int → Bool}
    (hm : a.eval m = .map (some b)) (h : DR w b r n f c left cnt) {d : List Int} (hd : DigOk d) (hx : a.eval x = .agg (u8s d).toArray)
    (hK : ∀ w' c' cnt', DR w' b r n (cut f d) c' (fun x => left x && !(x == d)) cnt' → c' + (if (f d).isSome then 1 else 0) = c → cnt' ≤ cnt → w.mapTurned w' b → K (a.put o.dst (.tuple #[])) w') :
    if Region.wanted o (yielded ops a.tmps) = true then Oper.wp Try.prog o a w K Q else E := by
  rw [if_pos hw]
  obtain ⟨D, l, hr, hf, hl⟩ := h
  obtain ⟨w', cnt', hrun, hr', hle, hturn⟩ := hr.drop keyed ht (keyOf_mk hd) o.type
  obtain ⟨c', hf', hc'⟩ := hf.del (hr.owns.tidy keyed) hd
  have hx' : a.eval x = dv d := hx
  unfold Oper.wp
  simp [execOp, hop, resolve, invoke, builtin, hm, hx', hrun, Result.andThen]
  refine hK w' c' cnt' ⟨_, _, hr', hf', fun x hx => ?_⟩ hc' hle hturn
  show (l (dk x) && !(dk x).sameKey (dk d)) = _
  rw [hl x hx]
  by_cases hxd : x = d
  · subst hxd
    simp [WideAt.sameKey_self (dk_key x)]
  · rw [Maps.sameKey_ne (fun e => hxd (dk_inj hx hd e))]
    simp [hxd]
end
end Go.Proofs.Ytlhehnghplchfaa
