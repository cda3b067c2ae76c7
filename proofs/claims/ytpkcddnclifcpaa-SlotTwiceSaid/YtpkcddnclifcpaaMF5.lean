/- Parts: More hand laws for a region that draws its order: a struct built, a slice literal of one element, append, a store, maps. No program is named here. | disk.clear and disk.step. | disk.clear, Start and Fail. -/
import Derived.Test.YtpkcddnclifcpaaMF1
import Derived.Great.BuildSlice
import Derived.Test.YtpkcddnclifcpaaMF4
import Derived.Deep.QuietTactic
import Derived.BigQuiet
namespace Go.Proofs.Ytpkcddnclifcpaa
open Go.RowKit
theorem part_eqM (pre mid post new : List Value) (hl : mid.length = new.length) :
    ((new.zipIdx pre.length).foldl (fun (cs : Array Value) (x : Value × Nat) => cs.setIfInBounds x.2 x.1) (pre ++ mid ++ post).toArray) = (pre ++ new ++ post).toArray := by
  apply Array.ext_getElem?
  intro i
  rw [set_many]
  simp only [List.getElem?_toArray, List.size_toArray, List.length_append]
  split
  · rename_i h
    rw [List.append_assoc, List.getElem?_append_right (by omega), List.getElem?_append_left (by omega)]
  · rename_i h
    rcases Nat.lt_or_ge i pre.length with h1 | h1
    · rw [List.append_assoc, List.getElem?_append_left h1, List.append_assoc, List.getElem?_append_left h1]
    · rw [List.append_assoc, List.append_assoc, List.getElem?_append_right h1, List.getElem?_append_right h1]
      rcases Nat.lt_or_ge (i - pre.length) new.length with h2 | h2
      · have : ¬ i < pre.length + mid.length + post.length := fun h3 => h ⟨h1, by omega, h3⟩
        omega
      · rw [List.getElem?_append_right (by omega), List.getElem?_append_right (by omega), hl]
section
variable {P : Program} {ops : Array Oper} {Q : Exit → Act → World → Prop} {S : World → Prop} {a : Act} {w : World} {listed : Array Bool} {fuel : Nat}
/-- A struct is built out of parts. -/
theorem hBuildM (i : Nat) (t : TypeId) (parts : Array (Nat × Operand)) (dst : Option Tmp) {vs : List (Nat × Value)} {cells : Array Value} (hd : (ops[i]?).map (fun o => (o.op, o.dst)) = some (.build t parts, dst)) (hw : (ops[i]?).map (fun o => Region.wanted o (yielded ops a.tmps)) = some true)
    (hs : Region.noSelect ops = true) (hf : Region.free .any ops listed i = true) (hr : (Region.ready .any ops listed).contains i = true)
    (hQ : ∀ c a w, Q (.panic c) (a.put dst (.agg cells)) w → Q (.panic c) a w) (hv : (parts.toList.map fun (i, x) => (i, a.eval x)) = vs) (hb : P.built t vs = some cells) (hS : S w)
    (h : wpAnyH P .any ops Q S fuel (listed.setIfInBounds i true) (a.put dst (.agg cells)) w) : wpAnyH P .any ops Q S (fuel + 1) listed a w :=
  hTake i _ dst _ hd hw hs hf hr hQ (fun o ho w _ => by
    rw [← Array.toList_map] at hv
    unfold execOp
    simp only [ho, Sem.run_bind, run_build w t _ cells (by rw [hv]; exact hb), Result.andThen_ok]
    rfl) hS h
theorem fill_oneM (s : Nat) (Z : Array Value) (cs : List Value) (hZ : Z.size = s) (hl : cs.length = s) : Instr.fill (fun i => some (i * s, s)) Z [(0, .agg cs.toArray)] = some cs.toArray := by
  have h1 : (Value.agg cs.toArray).cells = cs.toArray := rfl
  have h2 := part_eqM [] Z.toList [] cs (by simp [hZ, hl])
  simp only [List.nil_append, List.append_nil, List.length_nil, Array.toArray_toList] at h2
  simp [Instr.fill, h1, hl]
  exact ⟨Nat.le_of_eq hZ.symm, h2⟩
theorem run_lit1M {t e s bytes : Nat} (T : SlT P t e s bytes) (cs : List Value) (hl : cs.length = s) (hs : s ≤ 1000) (w : World) : (Instr.buildSlice t 1 #[(0, .agg cs.toArray)]).run P w = .ok (.slice (some ⟨w.heap.size, 0, none⟩) 1 1) (w.alloc (.cells cs.toArray e)) := by
  obtain ⟨i, z, hi, hz, hsi, hby, hzs⟩ := T.hi
  have := T.hs
  refine run_buildSlice w t e 1 _ cs.toArray i z T.ht hi hz (by rw [hsi]; omega) (by rw [hsi]; omega) ?_
  rw [hsi]
  exact fill_oneM s _ cs (by simp) hl
/-- One of those that may come up: a slice literal of one row. -/
theorem rLit1M {rs : List Nat} (i : Nat) {t e s bytes : Nat} (T : SlT P t e s bytes) (x : Operand) (dst : Option Tmp) (hd : (ops[i]?).map (fun o => (o.op, o.dst)) = some (.buildSlice t 1 #[(0, x)], dst)) (hw : (ops[i]?).map (fun o => Region.wanted o (yielded ops a.tmps)) = some true)
    {cs : List Value} (hx : a.eval x = .agg cs.toArray) (hl : cs.length = s) (hs1 : s ≤ 1000) (hS : S (w.alloc (.cells cs.toArray e)))
    (h : wpAnyH P .any ops Q S fuel (listed.setIfInBounds i true) (a.put dst (.slice (some ⟨w.heap.size, 0, none⟩) 1 1)) (w.alloc (.cells cs.toArray e))) (hs : AllReadyH P .any ops Q S fuel listed a w rs) : AllReadyH P .any ops Q S fuel listed a w (i :: rs) :=
  rStep i _ dst _ _ hd hw (fun o ho => by
    have hrun := run_lit1M T cs hl hs1 w
    unfold execOp
    simp only [ho, Sem.run_bind, List.map_toArray, List.map_cons, List.map_nil, hx, hrun, Result.andThen_ok]
    rfl) hS h hs
/-- One of those that may come up: append onto a row of the call's own. -/
theorem rAppR {rs : List Nat} (i : Nat) {t e s bytes : Nat} (T : SlT P t e s bytes) (p q : Operand) (dst : Option Tmp) (hd : (ops[i]?).map (fun o => (o.op, o.dst)) = some (.call { callee := .builtin .append, args := #[p, q], argTypes := #[t, t] }, dst)) (hw : (ops[i]?).map (fun o => Region.wanted o (yielded ops a.tmps)) = some true)
    {base n m : Nat} {v x : Value} {xs news : List Value} (hv : a.eval p = v) (hown : w.ownsRow base e s v n xs) (hxv : a.eval q = x) (hx : Sn w s x m news)
    (h1 : ∀ u ∈ news, u.oneCell' = true) (h63 : n + m ≤ maxLen) (hbytes : (n + m) * bytes ≤ 140737488355328) (hbase : base ≤ w.heap.size)
    (h : ∀ v' w', w'.ownsRow base e s v' (n + m) (xs ++ news) → w.grownBy w' v.ownBlock → (v'.ownBlock = v.ownBlock ∨ v'.ownBlock = some w.heap.size) → S w' ∧ (S w' → wpAnyH P .any ops Q S fuel (listed.setIfInBounds i true) (a.put dst v') w')) (hs : AllReadyH P .any ops Q S fuel listed a w rs) : AllReadyH P .any ops Q S fuel listed a w (i :: rs) := by
  cases ho : ops[i]? with
  | none => rw [ho] at hd; cases hd
  | some o =>
    have hd0 := hd
    rw [ho] at hd0
    simp only [Option.map_some, Option.some.injEq, Prod.mk.injEq] at hd0
    obtain ⟨v', w', hrun, h2, h3, h4⟩ := run_append_sn (ty := o.type) T hown hx h1 h63 hbytes hbase
    obtain ⟨h5, h6⟩ := h v' w' h2 h3 h4
    obtain ⟨hop, hdst⟩ := hd0
    rw [ho] at hw
    simp only [Option.map_some, Option.some.injEq] at hw
    refine AllReadyH.cons ho (fun K hK => ?_) hs
    rw [if_pos hw]
    unfold Oper.wp execOp
    simp only [hop, resolve, invoke, builtin, Sem.run_bind, Sem.run_pure, Result.andThen_ok, List.map_toArray, List.map_cons, List.map_nil, hv, hxv, hrun]
    rw [Oper.upon_value, hdst]
    exact hK.out _ _ h5 h6
/-- One of those that may come up: it stores, and leaves w2. -/
theorem rSkipR {rs : List Nat} (i : Nat) (op : Op) (dst : Option Tmp) (w2 : World) (hd : (ops[i]?).map (fun o => (o.op, o.dst)) = some (op, dst)) (hw : (ops[i]?).map (fun o => Region.wanted o (yielded ops a.tmps)) = some true)
    (hrun : ∀ o : Oper, o.op = op → (execOp a.eval o).run P w = .ok .skip w2) (hS : S w2)
    (h : wpAnyH P .any ops Q S fuel (listed.setIfInBounds i true) (a.put dst undef) w2) (hs : AllReadyH P .any ops Q S fuel listed a w rs) : AllReadyH P .any ops Q S fuel listed a w (i :: rs) := by
  cases ho : ops[i]? with
  | none => rw [ho] at hd; cases hd
  | some o =>
    rw [ho] at hd hw
    simp only [Option.map_some, Option.some.injEq, Prod.mk.injEq] at hd hw
    obtain ⟨h2, h3⟩ := hd
    subst h3
    refine AllReadyH.cons ho (fun K hK => ?_) hs
    rw [if_pos hw]
    unfold Oper.wp
    rw [hrun o h2]
    exact hK.out _ _ hS (fun _ => h)
/-- One of those that may come up: a builtin that yields nothing but a value. -/
theorem rDel {rs : List Nat} (i : Nat) {tM tk : TypeId} (p q : Operand) (dst : Option Tmp) (w2 : World) {vm vk : Value} (hd : (ops[i]?).map (fun o => (o.op, o.dst)) = some (.call { callee := .builtin .delete, args := #[p, q], argTypes := #[tM, tk] }, dst)) (hw : (ops[i]?).map (fun o => Region.wanted o (yielded ops a.tmps)) = some true)
    (hv : a.eval p = vm) (hq : a.eval q = vk) (hrun : ∀ ty, (Builtin.delete_ #[tM, tk] ty #[vm, vk]).run P w = .ok (.tuple #[]) w2) (hS : S w2)
    (h : wpAnyH P .any ops Q S fuel (listed.setIfInBounds i true) (a.put dst (.tuple #[])) w2) (hs : AllReadyH P .any ops Q S fuel listed a w rs) : AllReadyH P .any ops Q S fuel listed a w (i :: rs) := by
  cases ho : ops[i]? with
  | none => rw [ho] at hd; cases hd
  | some o =>
    have hd0 := hd
    rw [ho] at hd0
    simp only [Option.map_some, Option.some.injEq, Prod.mk.injEq] at hd0
    obtain ⟨hop, hdst⟩ := hd0
    rw [ho] at hw
    simp only [Option.map_some, Option.some.injEq] at hw
    refine AllReadyH.cons ho (fun K hK => ?_) hs
    rw [if_pos hw]
    unfold Oper.wp execOp
    simp only [hop, resolve, invoke, builtin, Sem.run_bind, Sem.run_pure, Result.andThen_ok, List.map_toArray, List.map_cons, List.map_nil, hv, hq, hrun o.type]
    rw [Oper.upon_value, hdst]
    exact hK.out _ _ hS (fun _ => h)
/-- One of those that may come up: a map's element is set. -/
theorem rUpd {rs : List Nat} (i : Nat) {tM : TypeId} (m p q : Operand) (dst : Option Tmp) (w2 : World) {vm vk vx : Value} (hd : (ops[i]?).map (fun o => (o.op, o.dst)) = some (.mapUpdate tM m p q, dst)) (hw : (ops[i]?).map (fun o => Region.wanted o (yielded ops a.tmps)) = some true)
    (hm : a.eval m = vm) (hv : a.eval p = vk) (hq : a.eval q = vx) (hrun : (Instr.mapUpdate tM vm vk vx).run P w = .ok () w2) (hS : S w2)
    (h : wpAnyH P .any ops Q S fuel (listed.setIfInBounds i true) (a.put dst undef) w2) (hs : AllReadyH P .any ops Q S fuel listed a w rs) : AllReadyH P .any ops Q S fuel listed a w (i :: rs) :=
  rSkipR i _ dst w2 hd hw (fun o ho => by
    unfold execOp
    simp only [ho, Sem.run_bind, hm, hv, hq, hrun, Result.andThen_ok]
    rfl) hS h hs
end
end Go.Proofs.Ytpkcddnclifcpaa
namespace Go.Proofs.Ytpkcddnclifcpaa
open Go.RowKit
attribute [local irreducible] wpQuiet wpAnyH
set_option linter.unusedSimpArgs false

/-- A disk after a step has begun. -/
def stepped (d : DiskD) : DiskD := { d with steps := d.steps + 1, fl := fun k => if k = ((d.steps + 1 : Nat) : Int) then false else d.fl k, cr := fun k => if k = ((d.steps + 1 : Nat) : Int) then none else d.cr k, room := max d.room (d.steps + 1) }
def stepM (m : DiskM) (d : DiskD) : DiskM := { m with fv := udel m.fv ((d.steps + 1 : Nat) : Int), cv := udel m.cv ((d.steps + 1 : Nat) : Int) }
/-- What becomes of a step: 0 done, 1 fails, 2 the machine crashes. -/
def outS (d : DiskD) : Int := if (d.cr ((d.steps + 1 : Nat) : Int)).isSome then 2 else if d.fl ((d.steps + 1 : Nat) : Int) then 1 else 0
def cutsS (d : DiskD) : List Int := (d.cr ((d.steps + 1 : Nat) : Int)).getD []
theorem zbool : ∀ w, (zeroValue 4).run Try.prog w = .ok (.bool false) w := fun w => by kernel_rfl
theorem zints : ∀ w, (zeroValue 65).run Try.prog w = .ok (.slice none 0 0) w := fun w => by kernel_rfl
theorem grown_map {w w' : World} {b : Nat} (h : w.mapTurned w' b) : w.grownBy w' (some b) := h.grown

set_option maxRecDepth 100000 in
set_option maxHeartbeats 4000000 in
theorem disk_step (w : World) (m : DiskM) (d : DiskD) (h : DK w m d) (hs : d.steps + 1 ≤ 100000) :
    Calls Try.prog 54 #[.pointer (some ⟨m.g, 0, none⟩)] w fun e w' => ∃ v, e = .returned (.tuple #[.int .i64 (outS d), v]) ∧ Sn w' 1 v (cutsS d).length (i64s (cutsS d)) ∧ (∀ b, v.ownBlock = some b → b ∉ foot m ∧ b < w'.heap.size) ∧ DK w' (stepM m d) (stepped d) ∧ DT w m w' (stepM m d) := by
  have H := Lib.hid h
  have hgl := h.blk.lt
  have hc4 := h.blk.cell 4
  have hf4 := h.blk.frozen 4
  simp only [diskC, List.getElem?_toArray, List.getElem?_cons_succ, List.getElem?_cons_zero] at hc4
  clear h
  obtain ⟨s, hs1⟩ : ∃ s, s = d.steps := ⟨_, rfl⟩
  have hsb : s + 1 ≤ 100000 := by omega
  rw [← hs1] at hc4
  have HS := Lib.hid hs1
  have hk : isI64 ((s + 1 : Nat) : Int) := by unfold isI64; omega
  obtain ⟨w1, hw1⟩ : ∃ w1, w1 = w.setCell ⟨m.g, 4, none⟩ (.int .i64 ((s + 1 : Nat) : Int)) := ⟨_, rfl⟩
  have hB1 : Blk w1 m.g 78 #[m.sv, m.ov, .map (some m.bl), .bool d.down, .int .i64 ((s + 1 : Nat) : Int), .map (some m.bf), .map (some m.bc)] := by rw [hw1]; exact H.out.blk.set_ 4 _
  have HO1 : Hid (∀ k, k ≠ m.g → w1.heap[k]? = w.heap[k]?) := Lib.hid (fun k hk => by rw [hw1]; exact Below.heap_setCell w ⟨m.g, 4, none⟩ _ k hk)
  have HZ1 : Hid (w1.heap.size = w.heap.size) := Lib.hid (by rw [hw1]; simp)
  have HFO1 : Hid (Fo (foot m) w w1) := Lib.hid (by rw [hw1]; exact Fo.refl.set m.g 4 (foot_g m) _)
  have HN := Lib.hid (foot_nd H.out.nd)
  have HUF : Hid (UM w1 m.bf d.room m.fv) := Lib.hid (H.out.fl.of_block (HO1.out _ (fun e => HN.out.2.1 e.symm)))
  have HUC : Hid (UM w1 m.bc d.room m.cv) := Lib.hid (H.out.cr.of_block (HO1.out _ (fun e => HN.out.2.2.1 e.symm)))
  have hflv := H.out.flv ((s + 1 : Nat) : Int) hk
  have HSB := Lib.hid hB1
  have HK : Hid (∀ W : World, W.heap = w1.heap → (∀ n, (Instr.lookup 74 (.map (some m.bf)) (.int .i64 ((s + 1 : Nat) : Int)) false).run Try.prog (W.drewN n) = .ok (.bool (d.fl ((s + 1 : Nat) : Int))) (W.drewN n)) ∧ (∀ n, (Instr.lookup 75 (.map (some m.bc)) (.int .i64 ((s + 1 : Nat) : Int)) true).run Try.prog (W.drewN n) = .ok (.tuple #[(m.cv ((s + 1 : Nat) : Int)).getD (.slice none 0 0), .bool (m.cv ((s + 1 : Nat) : Int)).isSome]) (W.drewN n)) ∧ W.cell? ⟨m.g, 5, none⟩ = some (.map (some m.bf)) ∧ W.cell? ⟨m.g, 6, none⟩ = some (.map (some m.bc)) ∧ W.cell? ⟨m.g, 4, none⟩ = some (.int .i64 ((s + 1 : Nat) : Int))) := Lib.hid (fun W hW => by
    have hB : Blk W m.g 78 _ := (congrArg (fun h : Array _ => h[m.g]?) hW).trans HSB.out
    refine ⟨fun n => ?_, fun n => ?_, hB.cell 5, hB.cell 6, hB.cell 4⟩
    · have h1 : UM (W.drewN n) m.bf d.room m.fv := HUF.out.of_block (congrArg (fun h : Array _ => h[m.bf]?) hW)
      have h2 := UM.look1 Try.underlying74 h1 (zbool _) hk
      rw [hflv] at h2
      exact h2
    · have h1 : UM (W.drewN n) m.bc d.room m.cv := HUC.out.of_block (congrArg (fun h : Array _ => h[m.bc]?) hW)
      exact UM.look Try.underlying75 h1 (zints _) hk)
  clear hflv hB1
  have HW1 : Hid (w.setCell ⟨m.g, 4, none⟩ (.int .i64 ((s : Int) + 1)) = w1) := Lib.hid hw1.symm
  clear hw1 hs1
  have hsm : (s : Int) ≤ 100000 := by omega
  go_enter Try.func54, Try.ntmps54
  go_wp2_with fail
  rw [HW1.out]
  obtain ⟨fb, hfb⟩ : ∃ fb, fb = d.fl ((s + 1 : Nat) : Int) := ⟨_, rfl⟩
  obtain ⟨vo, hvo⟩ : ∃ vo, vo = m.cv ((s + 1 : Nat) : Int) := ⟨_, rfl⟩
  obtain ⟨K, hK⟩ : ∃ K : Int, K = ((s + 1 : Nat) : Int) := ⟨_, rfl⟩
  rw [← hfb, ← hvo, ← hK] at HK
  rw [← hK] at hk
  have HKE := Lib.hid hK
  clear hK
  obtain ⟨hlf, hlc, hc5, hc6, hc4'⟩ := HK.out w1 rfl
  have HFB := Lib.hid hfb
  have HVO := Lib.hid hvo
  clear hfb hvo hc4 hf4
  go_quiet (fail)
  go_wp2_with fail
  obtain ⟨w2, hw2⟩ : ∃ w2, w2 = w1.drewN nq := ⟨_, rfl⟩
  have HH2 : Hid (w2.heap = w1.heap ∧ w2.os = w1.os ∧ w2.tape = w1.tape ∧ w2.output = w1.output) := Lib.hid (by rw [hw2]; exact ⟨rfl, rfl, rfl, rfl⟩)
  rw [← hw2]
  clear hw2 hlf hlc hc5 hc6 hc4'
  obtain ⟨_, hlc, hc5, hc6, hc4'⟩ := HK.out w2 HH2.out.1
  go_quiet (fail)
  go_wp2_with fail
  obtain ⟨w3, hw3⟩ : ∃ w3, w3 = w2.drewN nq := ⟨_, rfl⟩
  have HH3 : Hid (w3.heap = w1.heap ∧ w3.os = w1.os ∧ w3.tape = w1.tape ∧ w3.output = w1.output) := Lib.hid (by rw [hw3]; exact HH2.out)
  rw [← hw3]
  clear hw3 hlc hc5 hc6 hc4' HH2
  have HUF3 : Hid (UM w3.drew m.bf d.room m.fv) := Lib.hid (HUF.out.of_block (congrArg (fun h : Array _ => h[m.bf]?) HH3.out.1))
  obtain ⟨w4, HRUN4, HUF4, HT4⟩ : ∃ w4, Hid (∀ ty, (Builtin.delete_ #[74, 3] ty #[.map (some m.bf), .int .i64 K]).run Try.prog w3.drew = .ok (.tuple #[]) w4) ∧ Hid (UM w4 m.bf d.room (udel m.fv K)) ∧ Hid (w3.drew.grownBy w4 (some m.bf)) := by
    obtain ⟨w4, h1, h2, h3⟩ := UM.del_run Try.underlying74 HUF3.out hk 0
    exact ⟨w4, Lib.hid (fun ty => h1), Lib.hid h2, Lib.hid h3.grown⟩
  have HB4 : Hid (∀ k, k < w.heap.size → k ≠ m.bf → w4.heap[k]? = w1.heap[k]?) := Lib.hid (fun k hk hn => (HT4.out.block k (by have := congrArg Array.size HH3.out.1; have := HZ1.out; simp; omega) (fun e => hn (Option.some.inj e))).trans (congrArg (fun h : Array _ => h[k]?) HH3.out.1))
  have HBG4 : Hid (Blk w4 m.g 78 #[m.sv, m.ov, .map (some m.bl), .bool d.down, .int .i64 ((s + 1 : Nat) : Int), .map (some m.bf), .map (some m.bc)]) := Lib.hid ((HB4.out m.g hgl HN.out.2.1).trans HSB.out)
  have HST4 : Hid (w4.cell? ⟨m.g, 5, none⟩ = some (.map (some m.bf)) ∧ w4.cell? ⟨m.g, 4, none⟩ = some (.int .i64 K)) := Lib.hid ⟨HBG4.out.cell 5, by rw [HKE.out]; exact HBG4.out.cell 4⟩
  refine held_start 9 (fun wz => wz.cell? ⟨m.g, 5, none⟩ = some (.map (some m.bf)) ∧ wz.cell? ⟨m.g, 4, none⟩ = some (.int .i64 K)) (by kernel_rfl) (by kernel_rfl) (⟨(HK.out w3.drew HH3.out.1).2.2.1, (HK.out w3.drew HH3.out.1).2.2.2.2⟩) (fun hHeld => ?_)
  refine hMove 0 (Operand.tmp 0) (some 35) (.pointer (some ⟨m.g, 0, none⟩)) (by kernel_rfl) (by kernel_rfl) (by kernel_rfl) (by kernel_rfl) (by kernel_rfl) (fun _ _ _ h => h) (by exact rfl) hHeld ?_
  simp only [Act.put, List.setIfInBounds_toArray, List.set_cons_zero, List.set_cons_succ]
  refine hTake 1 (Op.nilCheck (Operand.tmp 35)) (some 36) (.pointer (some ⟨m.g, 0, none⟩)) (by kernel_rfl) (by kernel_rfl) (by kernel_rfl) (by kernel_rfl) (by kernel_rfl) (fun _ _ _ h => h) (fun o ho wX hX => by unfold execOp; simp only [ho]; go_simp) hHeld ?_
  simp only [Act.put, List.setIfInBounds_toArray, List.set_cons_zero, List.set_cons_succ]
  refine hTake 2 (Op.fieldAddr 78 (Operand.tmp 36) 5) (some 37) (.pointer (some ⟨m.g, 5, none⟩)) (by kernel_rfl) (by kernel_rfl) (by kernel_rfl) (by kernel_rfl) (by kernel_rfl) (fun _ _ _ h => h) (fun o ho wX hX => by unfold execOp; simp only [ho]; go_simp) hHeld ?_
  simp only [Act.put, List.setIfInBounds_toArray, List.set_cons_zero, List.set_cons_succ]
  refine hTake 3 (Op.load 74 (Operand.tmp 37)) (some 38) (.map (some m.bf)) (by kernel_rfl) (by kernel_rfl) (by kernel_rfl) (by kernel_rfl) (by kernel_rfl) (fun _ _ _ h => h) (fun o ho wX hX => by have hcell := hX.1; unfold execOp; simp only [ho]; go_simp) hHeld ?_
  simp only [Act.put, List.setIfInBounds_toArray, List.set_cons_zero, List.set_cons_succ]
  refine hMove 4 (Operand.tmp 0) (some 39) (.pointer (some ⟨m.g, 0, none⟩)) (by kernel_rfl) (by kernel_rfl) (by kernel_rfl) (by kernel_rfl) (by kernel_rfl) (fun _ _ _ h => h) (by exact rfl) hHeld ?_
  simp only [Act.put, List.setIfInBounds_toArray, List.set_cons_zero, List.set_cons_succ]
  refine hTake 5 (Op.nilCheck (Operand.tmp 39)) (some 40) (.pointer (some ⟨m.g, 0, none⟩)) (by kernel_rfl) (by kernel_rfl) (by kernel_rfl) (by kernel_rfl) (by kernel_rfl) (fun _ _ _ h => h) (fun o ho wX hX => by unfold execOp; simp only [ho]; go_simp) hHeld ?_
  simp only [Act.put, List.setIfInBounds_toArray, List.set_cons_zero, List.set_cons_succ]
  refine hTake 6 (Op.fieldAddr 78 (Operand.tmp 40) 4) (some 41) (.pointer (some ⟨m.g, 4, none⟩)) (by kernel_rfl) (by kernel_rfl) (by kernel_rfl) (by kernel_rfl) (by kernel_rfl) (fun _ _ _ h => h) (fun o ho wX hX => by unfold execOp; simp only [ho]; go_simp) hHeld ?_
  simp only [Act.put, List.setIfInBounds_toArray, List.set_cons_zero, List.set_cons_succ]
  refine hTake 7 (Op.load 3 (Operand.tmp 41)) (some 42) (.int .i64 K) (by kernel_rfl) (by kernel_rfl) (by kernel_rfl) (by kernel_rfl) (by kernel_rfl) (fun _ _ _ h => h) (fun o ho wX hX => by have hcell := hX.2; unfold execOp; simp only [ho]; go_simp) hHeld ?_
  simp only [Act.put, List.setIfInBounds_toArray, List.set_cons_zero, List.set_cons_succ]
  refine wpAnyH_ready (rs := [8]) (by kernel_rfl) (by simp) ?_
  refine rDel 8 (.tmp 38) (.tmp 42) none w4 (vm := .map (some m.bf)) (vk := .int .i64 K) (by kernel_rfl) (by kernel_rfl) (by rfl) (by rfl) HRUN4.out HST4.out ?_ AllReadyH.nil
  simp only [Act.put, List.setIfInBounds_toArray, List.set_cons_zero, List.set_cons_succ]
  refine wpAnyH_done (by kernel_rfl) ?_ _
  clear hHeld
  go_wp2_with fail
  have HUC4 : Hid (UM w4.drew m.bc d.room m.cv) := Lib.hid (HUC.out.of_block (HB4.out m.bc H.out.cr.lt (fun e => HN.out.2.2.2.2.2.1 e.symm)))
  have HZ4 : Hid (w.heap.size ≤ w4.heap.size) := Lib.hid (by have h1 := HT4.out.size; have h2 := congrArg Array.size HH3.out.1; have h3 := HZ1.out; simp at h1; omega)
  have HS5 : Hid (w4.drew.cell? ⟨m.g, 6, none⟩ = some (.map (some m.bc)) ∧ w4.drew.cell? ⟨m.g, 4, none⟩ = some (.int .i64 K)) := Lib.hid ⟨HBG4.out.cell 6, by rw [HKE.out]; exact HBG4.out.cell 4⟩
  obtain ⟨w6, HRUN6, HUC6, HT6⟩ : ∃ w6, Hid (∀ ty, (Builtin.delete_ #[75, 3] ty #[.map (some m.bc), .int .i64 K]).run Try.prog w4.drew = .ok (.tuple #[]) w6) ∧ Hid (UM w6 m.bc d.room (udel m.cv K)) ∧ Hid (w4.drew.grownBy w6 (some m.bc)) := by
    obtain ⟨w6, h1, h2, h3⟩ := UM.del_run Try.underlying75 HUC4.out hk 0
    exact ⟨w6, Lib.hid (fun ty => h1), Lib.hid h2, Lib.hid h3.grown⟩
  have HB6 : Hid (∀ k, k < w.heap.size → k ≠ m.bf → k ≠ m.bc → w6.heap[k]? = w1.heap[k]?) := Lib.hid (fun k hk h1 h2 => (HT6.out.block k (by have := HZ4.out; simp; omega) (fun e => h2 (Option.some.inj e))).trans (HB4.out k hk h1))
  have HBG6 : Hid (Blk w6 m.g 78 #[m.sv, m.ov, .map (some m.bl), .bool d.down, .int .i64 ((s + 1 : Nat) : Int), .map (some m.bf), .map (some m.bc)]) := Lib.hid ((HB6.out m.g hgl HN.out.2.1 HN.out.2.2.1).trans HSB.out)
  have HST6 : Hid (w6.cell? ⟨m.g, 6, none⟩ = some (.map (some m.bc)) ∧ w6.cell? ⟨m.g, 4, none⟩ = some (.int .i64 K)) := Lib.hid ⟨HBG6.out.cell 6, by rw [HKE.out]; exact HBG6.out.cell 4⟩
  refine held_start 9 (fun wz => wz.cell? ⟨m.g, 6, none⟩ = some (.map (some m.bc)) ∧ wz.cell? ⟨m.g, 4, none⟩ = some (.int .i64 K)) (by kernel_rfl) (by kernel_rfl) (HS5.out) (fun hHeld => ?_)
  refine hMove 0 (Operand.tmp 0) (some 43) (.pointer (some ⟨m.g, 0, none⟩)) (by kernel_rfl) (by kernel_rfl) (by kernel_rfl) (by kernel_rfl) (by kernel_rfl) (fun _ _ _ h => h) (by exact rfl) hHeld ?_
  simp only [Act.put, List.setIfInBounds_toArray, List.set_cons_zero, List.set_cons_succ]
  refine hTake 1 (Op.nilCheck (Operand.tmp 43)) (some 44) (.pointer (some ⟨m.g, 0, none⟩)) (by kernel_rfl) (by kernel_rfl) (by kernel_rfl) (by kernel_rfl) (by kernel_rfl) (fun _ _ _ h => h) (fun o ho wX hX => by unfold execOp; simp only [ho]; go_simp) hHeld ?_
  simp only [Act.put, List.setIfInBounds_toArray, List.set_cons_zero, List.set_cons_succ]
  refine hTake 2 (Op.fieldAddr 78 (Operand.tmp 44) 6) (some 45) (.pointer (some ⟨m.g, 6, none⟩)) (by kernel_rfl) (by kernel_rfl) (by kernel_rfl) (by kernel_rfl) (by kernel_rfl) (fun _ _ _ h => h) (fun o ho wX hX => by unfold execOp; simp only [ho]; go_simp) hHeld ?_
  simp only [Act.put, List.setIfInBounds_toArray, List.set_cons_zero, List.set_cons_succ]
  refine hTake 3 (Op.load 75 (Operand.tmp 45)) (some 46) (.map (some m.bc)) (by kernel_rfl) (by kernel_rfl) (by kernel_rfl) (by kernel_rfl) (by kernel_rfl) (fun _ _ _ h => h) (fun o ho wX hX => by have hcell := hX.1; unfold execOp; simp only [ho]; go_simp) hHeld ?_
  simp only [Act.put, List.setIfInBounds_toArray, List.set_cons_zero, List.set_cons_succ]
  refine hMove 4 (Operand.tmp 0) (some 47) (.pointer (some ⟨m.g, 0, none⟩)) (by kernel_rfl) (by kernel_rfl) (by kernel_rfl) (by kernel_rfl) (by kernel_rfl) (fun _ _ _ h => h) (by exact rfl) hHeld ?_
  simp only [Act.put, List.setIfInBounds_toArray, List.set_cons_zero, List.set_cons_succ]
  refine hTake 5 (Op.nilCheck (Operand.tmp 47)) (some 48) (.pointer (some ⟨m.g, 0, none⟩)) (by kernel_rfl) (by kernel_rfl) (by kernel_rfl) (by kernel_rfl) (by kernel_rfl) (fun _ _ _ h => h) (fun o ho wX hX => by unfold execOp; simp only [ho]; go_simp) hHeld ?_
  simp only [Act.put, List.setIfInBounds_toArray, List.set_cons_zero, List.set_cons_succ]
  refine hTake 6 (Op.fieldAddr 78 (Operand.tmp 48) 4) (some 49) (.pointer (some ⟨m.g, 4, none⟩)) (by kernel_rfl) (by kernel_rfl) (by kernel_rfl) (by kernel_rfl) (by kernel_rfl) (fun _ _ _ h => h) (fun o ho wX hX => by unfold execOp; simp only [ho]; go_simp) hHeld ?_
  simp only [Act.put, List.setIfInBounds_toArray, List.set_cons_zero, List.set_cons_succ]
  refine hTake 7 (Op.load 3 (Operand.tmp 49)) (some 50) (.int .i64 K) (by kernel_rfl) (by kernel_rfl) (by kernel_rfl) (by kernel_rfl) (by kernel_rfl) (fun _ _ _ h => h) (fun o ho wX hX => by have hcell := hX.2; unfold execOp; simp only [ho]; go_simp) hHeld ?_
  simp only [Act.put, List.setIfInBounds_toArray, List.set_cons_zero, List.set_cons_succ]
  refine wpAnyH_ready (rs := [8]) (by kernel_rfl) (by simp) ?_
  refine rDel 8 (.tmp 46) (.tmp 50) none w6 (vm := .map (some m.bc)) (vk := .int .i64 K) (by kernel_rfl) (by kernel_rfl) (by rfl) (by rfl) HRUN6.out HST6.out ?_ AllReadyH.nil
  simp only [Act.put, List.setIfInBounds_toArray, List.set_cons_zero, List.set_cons_succ]
  refine wpAnyH_done (by kernel_rfl) ?_ _
  clear hHeld
  have HZ6 : Hid (w.heap.size ≤ w6.heap.size) := Lib.hid (by have h1 := HT6.out.size; have h2 := HZ4.out; simp at h1; omega)
  have HBW : Hid (∀ k, k < w.heap.size → k ≠ m.g → k ≠ m.bf → k ≠ m.bc → w6.heap[k]? = w.heap[k]?) := Lib.hid (fun k hk h0 h1 h2 => (HB6.out k hk h1 h2).trans (HO1.out k h0))
  have HUF6 : Hid (UM w6 m.bf d.room (udel m.fv K)) := Lib.hid (HUF4.out.of_block ((HT6.out.block m.bf HUF4.out.lt (fun e => HN.out.2.2.2.2.2.1 (Option.some.inj e)))))
  have HDT : Hid (DT w m w6 (stepM m d)) := Lib.hid ⟨rfl, HFO1.out.trans ⟨HT6.out.os.trans (HT4.out.os.trans HH3.out.2.1), HT6.out.tape.trans (HT4.out.tape.trans HH3.out.2.2.1), HT6.out.output.trans (HT4.out.output.trans HH3.out.2.2.2), by have h1 := HZ6.out; have h2 := HZ1.out; omega, fun k hk hn => HB6.out k (by have := HZ1.out; omega) (fun e => hn (by rw [e]; exact foot_bf m)) (fun e => hn (by rw [e]; exact foot_bc m))⟩ (fun x hx => .inl hx), fun k hk => .inl hk, fun k v hk => .inl (by
    have hk : (if k = ((d.steps + 1 : Nat) : Int) then none else m.cv k) = some v := hk
    split at hk
    · cases hk
    · exact hk)⟩
  have HDK : Hid (DK w6 (stepM m d) (stepped d)) := Lib.hid (by
    have hKs : K = ((d.steps + 1 : Nat) : Int) := by rw [HKE.out, HS.out]
    refine H.out.re rfl [m.g, m.bf, m.bc] (fun k hk => by
      simp only [List.mem_cons, List.not_mem_nil, or_false] at hk
      rcases hk with rfl | rfl | rfl
      · exact foot_g m
      · exact foot_bf m
      · exact foot_bc m) (fun k hk hn => by
      simp only [List.mem_cons, List.not_mem_nil, or_false, not_or] at hn
      exact HBW.out k hk hn.1 hn.2.1 hn.2.2) HZ6.out ?_ (own_blk H.out.sec fun b hb => HBW.out b (H.out.sec.lt b hb).2 ?_ ?_ ?_) (own_blk H.out.opn fun b hb => HBW.out b (H.out.opn.lt b hb).2 ?_ ?_ ?_) ((H.out.last.of_block (HBW.out m.bl H.out.last.lt (fun e => HN.out.1 e.symm) HN.out.2.2.2.1 HN.out.2.2.2.2.1)).mono (Nat.le_max_left _ _)) ?_ ?_ H.out.nd (fun b hb => .inl hb) (fun k hk => ?_) (fun k hk => ?_) ?_
    · have h := HBG6.out
      rw [HS.out] at h
      exact h
    · exact (HN.out.2.2.2.2.2.2.1 b hb).1
    · exact (HN.out.2.2.2.2.2.2.1 b hb).2.2.1
    · exact (HN.out.2.2.2.2.2.2.1 b hb).2.2.2
    · exact (HN.out.2.2.2.2.2.2.2.1 b hb).1
    · exact (HN.out.2.2.2.2.2.2.2.1 b hb).2.2.1
    · exact (HN.out.2.2.2.2.2.2.2.1 b hb).2.2.2
    · have h := HUF6.out; rw [hKs] at h; exact h.mono (Nat.le_max_left _ _)
    · have h := HUC6.out; rw [hKs] at h; exact h.mono (Nat.le_max_left _ _)
    · show (udel m.fv _ k).getD (.bool false) = .bool (if k = _ then false else d.fl k)
      unfold udel
      by_cases e : k = ((d.steps + 1 : Nat) : Int)
      · rw [if_pos e, if_pos e]; rfl
      · rw [if_neg e, if_neg e]; exact H.out.flv k hk
    · show ((if k = _ then none else d.cr k) = none ∧ udel m.cv _ k = none) ∨ ((if k = _ then none else d.cr k) = d.cr k ∧ udel m.cv _ k = m.cv k)
      unfold udel
      by_cases e : k = ((d.steps + 1 : Nat) : Int)
      · rw [if_pos e, if_pos e]; exact .inl ⟨rfl, rfl⟩
      · rw [if_neg e, if_neg e]; exact .inr ⟨rfl, rfl⟩
    · have ok := H.out.ok
      exact ⟨ok.sec, ok.opn, ok.few, ok.pos, Nat.le_trans ok.lo (Nat.le_max_left _ _), Nat.le_max_right _ _, by have h1 := ok.rm; have h2 := HS.out; show max d.room (d.steps + 1) ≤ 100000; omega, fun k cs h => by
        have h : (if k = ((d.steps + 1 : Nat) : Int) then none else d.cr k) = some cs := h
        split at h
        · cases h
        · exact ok.cl k cs h⟩)
  have HCR := Lib.hid (H.out.crv K hk)
  have HOC : Hid (outS d = (if (d.cr K).isSome then 2 else if fb then 1 else 0) ∧ cutsS d = (d.cr K).getD []) := Lib.hid (by unfold outS cutsS; rw [HKE.out, HFB.out, HS.out]; exact ⟨rfl, rfl⟩)
  clear HUF6 HBW HB6 HB4 HUC6 HUF4 HT4 HT6 HRUN4 HRUN6 HK
  cases hcr : d.cr K with
  | none =>
    have h1 := HCR.out
    rw [hcr] at h1
    have h1 : m.cv K = none := h1
    have hv : vo = none := by rw [HVO.out, ← HKE.out]; exact h1
    subst hv
    have HO2 : Hid (outS d = (if fb then 1 else 0) ∧ cutsS d = []) := Lib.hid (by have h := HOC.out; rw [hcr] at h; exact h)
    clear hcr h1 HOC HCR
    cases fb with
    | true =>
      go_wp2_with fail
      go_ret2
      exact ⟨_, by rw [HO2.out.1]; rfl, by rw [HO2.out.2]; exact ⟨none, 0, rfl, Nat.le_refl _, rfl, fun h => by cases h⟩, (fun b e => by cases e), HDK.out, HDT.out⟩
    | false =>
      go_wp2_with fail
      go_ret2
      exact ⟨_, by rw [HO2.out.1]; rfl, by rw [HO2.out.2]; exact ⟨none, 0, rfl, Nat.le_refl _, rfl, fun h => by cases h⟩, (fun b e => by cases e), HDK.out, HDT.out⟩
  | some cs =>
    have h1 := HCR.out
    rw [hcr] at h1
    obtain ⟨v, h2, h3, h4⟩ := h1
    have hv : vo = some v := by rw [HVO.out, ← HKE.out]; exact h2
    subst hv
    have HO2 : Hid (outS d = 2 ∧ cutsS d = cs) := Lib.hid (by have h := HOC.out; rw [hcr] at h; exact h)
    have HSN : Hid (Sn w6 1 v cs.length (i64s cs)) := Lib.hid (HDT.out.fo.sn h3 (fun b hb => (h4 b hb).1))
    have HVB : Hid (∀ b, v.ownBlock = some b → b ∉ foot m ∧ b < w6.heap.size) := Lib.hid (fun b hb => ⟨(h4 b hb).1, Nat.lt_of_lt_of_le (h4 b hb).2 HZ6.out⟩)
    clear hcr h2 h3 h4 HOC HCR
    go_wp2_with fail
    go_ret2
    exact ⟨v, by rw [HO2.out.1]; rfl, by rw [HO2.out.2]; exact HSN.out, HVB.out, HDK.out, HDT.out⟩
end Go.Proofs.Ytpkcddnclifcpaa
namespace Go.Proofs.Ytpkcddnclifcpaa
open Go.RowKit
attribute [local irreducible] wpQuiet wpAnyH
set_option linter.unusedSimpArgs false

def clearM (m : DiskM) : DiskM := { m with ov := .slice none 0 0 }
def clearD (d : DiskD) : DiskD := { d with opn := [] }
theorem foot_clear {m : DiskM} : ∀ k ∈ foot (clearM m), k ∈ foot m := by
  intro k hk
  simp only [foot, clearM, Value.ownBlock, Option.toList_none, List.append_nil, List.mem_append] at hk ⊢
  rcases hk with h | h
  · exact .inl h
  · exact .inr (.inl h)
theorem nd_clear {m : DiskM} (h : (foot m).Nodup) : (foot (clearM m)).Nodup := by
  have e : foot m = foot (clearM m) ++ m.ov.ownBlock.toList := by simp [foot, clearM, Value.ownBlock]
  rw [e, List.nodup_append] at h
  exact h.1

set_option maxRecDepth 100000 in
set_option maxHeartbeats 1000000 in
theorem disk_clear (w : World) (m : DiskM) (d : DiskD) (h : DK w m d) :
    Calls Try.prog 48 #[.pointer (some ⟨m.g, 0, none⟩)] w fun e w' => e = .returned (.tuple #[]) ∧ DK w' (clearM m) (clearD d) ∧ DT w m w' (clearM m) := by
  have H := Lib.hid h
  have HN := Lib.hid (foot_nd H.out.nd)
  have hgl := h.blk.lt
  have hc1 := h.blk.cell 1
  have hf1 := h.blk.frozen 1
  have hc2 := h.blk.cell 2
  simp only [diskC, List.getElem?_toArray, List.getElem?_cons_succ, List.getElem?_cons_zero] at hc1 hc2
  obtain ⟨A0, cap0, hov, _⟩ := Sn.own h.opn
  rw [hov] at hc1
  clear h
  have HB1 : Hid (Blk (w.setCell ⟨m.g, 1, none⟩ (.slice none 0 0)) m.g 78 (diskC (clearM m) (clearD d))) := Lib.hid (H.out.blk.set_ 1 _)
  have HU1 : Hid (UM (w.setCell ⟨m.g, 1, none⟩ (.slice none 0 0)) m.bl d.room (lastOf d.opn)) := Lib.hid (H.out.last.of_block (Below.heap_setCell w ⟨m.g, 1, none⟩ _ _ (fun e => HN.out.1 e.symm)))
  obtain ⟨w2, HRUN, HU2, HT2⟩ : ∃ w2, Hid (∀ ty, (Builtin.clear_ #[73] ty #[.map (some m.bl)]).run Try.prog (w.setCell ⟨m.g, 1, none⟩ (.slice none 0 0)) = .ok (.tuple #[]) w2) ∧ Hid (UM w2 m.bl d.room (fun _ => none)) ∧ Hid ((w.setCell ⟨m.g, 1, none⟩ (.slice none 0 0)).grownBy w2 (some m.bl)) := by
    obtain ⟨w2, h1, h2, h3⟩ := UM.clear_run Try.underlying73 HU1.out 0
    exact ⟨w2, Lib.hid (fun ty => h1), Lib.hid h2, Lib.hid h3.grown⟩
  have HBW : Hid (∀ k, k < w.heap.size → k ≠ m.g → k ≠ m.bl → w2.heap[k]? = w.heap[k]?) := Lib.hid (fun k hk h0 h1 => (HT2.out.block k (by simpa using hk) (fun e => h1 (Option.some.inj e))).trans (Below.heap_setCell w ⟨m.g, 1, none⟩ _ k h0))
  have HZ2 : Hid (w.heap.size ≤ w2.heap.size) := Lib.hid (by have := HT2.out.size; simpa using this)
  have HDT : Hid (DT w m w2 (clearM m)) := Lib.hid ⟨rfl, ⟨HT2.out.os, HT2.out.tape, HT2.out.output, HZ2.out, fun k hk hn => HBW.out k hk (fun e => hn (by rw [e]; exact foot_g m)) (fun e => hn (by rw [e]; exact foot_bl m))⟩, fun k hk => .inl (foot_clear k hk), fun _ _ h => .inl h⟩
  have HDK : Hid (DK w2 (clearM m) (clearD d)) := Lib.hid (by
    refine H.out.re rfl [m.g, m.bl] (fun k hk => by
      simp only [List.mem_cons, List.not_mem_nil, or_false] at hk
      rcases hk with rfl | rfl
      · exact foot_g m
      · exact foot_bl m) (fun k hk hn => by
      simp only [List.mem_cons, List.not_mem_nil, or_false, not_or] at hn
      exact HBW.out k hk hn.1 hn.2) HZ2.out ((HT2.out.block m.g (by simpa using hgl) (fun e => HN.out.1 (Option.some.inj e))).trans HB1.out) (own_blk H.out.sec fun b hb => HBW.out b (H.out.sec.lt b hb).2 ?_ ?_) (World.ownsRow_nil _ _ _ _) ?_ (H.out.fl.of_block (HBW.out _ H.out.fl.lt (fun e => HN.out.2.1 e.symm) (fun e => HN.out.2.2.2.1 e.symm))) (H.out.cr.of_block (HBW.out _ H.out.cr.lt (fun e => HN.out.2.2.1 e.symm) (fun e => HN.out.2.2.2.2.1 e.symm))) (nd_clear H.out.nd) (fun b hb => .inl (foot_clear b hb)) H.out.flv (fun k hk => .inr ⟨rfl, rfl⟩) ?_
    · exact (HN.out.2.2.2.2.2.2.1 b hb).1
    · exact (HN.out.2.2.2.2.2.2.1 b hb).2.1
    · show UM _ _ _ (lastOf [])
      rw [lastOf_nil]
      exact HU2.out
    · have ok := H.out.ok
      exact ⟨ok.sec, (fun p hp => by cases hp), ok.few, ok.pos, Nat.zero_le _, ok.st, ok.rm, ok.cl⟩)
  have hrun := HRUN.out
  clear hov
  go_enter Try.func48, Try.ntmps48
  go_wp2_with fail
  exact bodyPost_end (results_none rfl _ _ _) rfl ⟨rfl, HDK.out, HDT.out⟩

def startD (d : DiskD) : DiskD := { d with down := false }
def downD (d : DiskD) : DiskD := { d with down := true }
theorem DK.down {w : World} {m : DiskM} {d : DiskD} (h : DK w m d) (b : Bool) : DK (w.setCell ⟨m.g, 3, none⟩ (.bool b)) m { d with down := b } ∧ DT w m (w.setCell ⟨m.g, 3, none⟩ (.bool b)) m := by
  have hn := foot_nd h.nd
  have ho : ∀ k, k ≠ m.g → (w.setCell ⟨m.g, 3, none⟩ (.bool b)).heap[k]? = w.heap[k]? := fun k hk => Below.heap_setCell w ⟨m.g, 3, none⟩ _ k hk
  refine ⟨h.re rfl [m.g] (fun k hk => by rw [List.mem_singleton] at hk; rw [hk]; exact foot_g m) (fun k _ hn => ho k (by simpa using hn)) (by simp) (h.blk.set_ 3 _) (own_blk h.sec fun b hb => ho b (hn.2.2.2.2.2.2.1 b hb).1) (own_blk h.opn fun b hb => ho b (hn.2.2.2.2.2.2.2.1 b hb).1) (h.last.of_block (ho _ (fun e => hn.1 e.symm))) (h.fl.of_block (ho _ (fun e => hn.2.1 e.symm))) (h.cr.of_block (ho _ (fun e => hn.2.2.1 e.symm))) h.nd (fun b hb => .inl hb) h.flv (fun k hk => .inr ⟨rfl, rfl⟩) ⟨h.ok.sec, h.ok.opn, h.ok.few, h.ok.pos, h.ok.lo, h.ok.st, h.ok.rm, h.ok.cl⟩, ⟨rfl, Fo.refl.set m.g 3 (foot_g m) _, fun _ h => .inl h, fun _ _ h => .inl h⟩⟩
set_option maxRecDepth 100000 in
theorem disk_start (w : World) (m : DiskM) (d : DiskD) (h : DK w m d) :
    Calls Try.prog 20 #[.pointer (some ⟨m.g, 0, none⟩)] w fun e w' => e = .returned (.tuple #[]) ∧ DK w' m (startD d) ∧ DT w m w' m := by
  have H := Lib.hid (h.down false)
  have hc3 := h.blk.cell 3
  have hf3 := h.blk.frozen 3
  simp only [diskC, List.getElem?_toArray, List.getElem?_cons_succ, List.getElem?_cons_zero] at hc3
  clear h
  go_enter Try.func20, Try.ntmps20
  go_wp2_with fail
  exact bodyPost_end (results_none rfl _ _ _) rfl ⟨rfl, H.out.1, H.out.2⟩
end Go.Proofs.Ytpkcddnclifcpaa
