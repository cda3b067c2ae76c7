/- Parts: slot.Room, tollref17.Right. | slot.Halves. | wire.New, next, Take: and where the bytes lie. -/
import Derived.Test.YtombncedfleljaaGreatMK11
import Derived.Test.YtombncedfleljaaGreatMK8
namespace Go.Proofs.YtombncedfleljaaGreat
open Go.RowKit
attribute [local irreducible] wpQuiet wpAnyH
set_option linter.unusedSimpArgs false

def room (z : Int) : Int := if z < 1 then 0 else z - 1
set_option maxRecDepth 100000 in
theorem slot_room (f z : Int) (w : World) (hz : isI64 z) :
    Calls Tryz.prog 77 #[.agg #[.int .i64 f, .int .i64 z]] w fun e w' => e = .returned (.int .i64 (room z)) ∧ Below w.heap.size w w' := by
  have hbA : Below w.heap.size w (w.alloc (.cells #[.int .i64 f, .int .i64 z] 106)) := (Below.refl _ w).alloc (Nat.le_refl _) _
  have hc := (Blk.new w 106 #[.int .i64 f, .int .i64 z]).cell 1
  simp only [List.getElem?_toArray, List.getElem?_cons_succ, List.getElem?_cons_zero] at hc
  have h1 : -9223372036854775808 ≤ z := hz.1
  have h2 : z ≤ 9223372036854775807 := hz.2
  rcases Bool.eq_false_or_eq_true (decide (z < 1)) with t1 | t1
  · go_enter Tryz.func77, Tryz.ntmps77
    go_wp2_with fail
    go_ret
    exact ⟨by unfold room; rw [if_pos (of_decide_eq_true t1)]; rfl, hbA⟩
  · have h3 : 1 ≤ z := by have := of_decide_eq_false t1; omega
    go_enter Tryz.func77, Tryz.ntmps77
    go_wp2_with fail
    go_ret
    exact ⟨by unfold room; rw [if_neg (by omega)]; rfl, hbA⟩
def rightE (q : List Int × Int) : Bool := decide (0 ≤ q.2) && decide (q.2 ≤ 4611686018427387904)
set_option maxRecDepth 100000 in
theorem ref_right (q : List Int × Int) (w : World) (hq : EntOk q) :
    Calls Tryz.prog 70 #[.agg (entP q).toArray] w fun e w' => e = .returned (.bool (rightE q)) ∧ Below w.heap.size w w' := by
  have hbA : Below w.heap.size w (w.alloc (.cells (entP q).toArray 35)) := (Below.refl _ w).alloc (Nat.le_refl _) _
  have hB := Blk.new w 35 (entP q).toArray
  have hcell : (w.alloc (.cells (entP q).toArray 35)).cell? ⟨w.heap.size, 32, none⟩ = some (.int .i64 q.2) := by
    rw [hB.cell]
    have h32 : (u8s q.1).length = 32 := by rw [u8s_length, hq.dig.len]
    simp only [List.getElem?_toArray, entP, entC]
    rw [List.getElem?_append_right (by omega), h32]
    rfl
  have hlq := entP_length q hq
  clear hB hq
  rcases Bool.eq_false_or_eq_true (decide (0 ≤ q.2)) with t1 | t1 <;> rcases Bool.eq_false_or_eq_true (decide (q.2 ≤ 4611686018427387904)) with t2 | t2
  all_goals
    go_enter Tryz.func70, Tryz.ntmps70
    go_wp2_with fail
    go_ret
    exact ⟨by unfold rightE; rw [t1, t2]; rfl, hbA⟩
end Go.Proofs.YtombncedfleljaaGreat
namespace Go.Proofs.YtombncedfleljaaGreat
open Go.RowKit
attribute [local irreducible] wpQuiet wpAnyH
set_option linter.unusedSimpArgs false

theorem results_cellR2 {P : Program} {w : World} {fn : Func} {p u : Tmp} {ty ty' : TypeId} (h : fn.results = #[.cell p ty, .cell u ty']) (tmps : Array Value) {b b' : Nat} {cs ds : List Value} {d d' : TypeDesc} (hp : tmps.getD p undef = .pointer (some ⟨b, 0, none⟩)) (hp' : tmps.getD u undef = .pointer (some ⟨b', 0, none⟩)) (hc : w.rangeAt b 0 cs) (hc' : w.rangeAt b' 0 ds)
    (hu : P.underlying ty = some d) (hd : d.isRow = true) (hi : (P.info? ty).map (·.size) = some cs.length) (hu' : P.underlying ty' = some d') (hd' : d'.isRow = true) (hi' : (P.info? ty').map (·.size) = some ds.length) : (results fn tmps).run P w = .ok (.tuple #[.agg cs.toArray, .agg ds.toArray]) w := by
  have h1 : tmps[p]?.getD undef = .pointer (some ⟨b, 0, none⟩) := by simpa using hp
  have h2 : tmps[u]?.getD undef = .pointer (some ⟨b', 0, none⟩) := by simpa using hp'
  simp [results, h, h1, h2, asAddr, Sem.run_bind, Result.andThen, run_loadVar_mid w b 0 ty cs d hc hu hd hi, run_loadVar_mid w b' 0 ty' ds d' hc' hu' hd' hi']

set_option maxRecDepth 100000 in
theorem slot_halves (n : Nat) (w : World) (hn : n ≤ 1000000) :
    Calls Tryz.prog 65 #[.int .i64 n] w fun e w' => e = .returned (.tuple #[.agg #[.int .i64 0, .int .i64 ((n / 2 : Nat) : Int)], .agg #[.int .i64 ((n / 2 : Nat) : Int), .int .i64 ((n / 2 : Nat) : Int)]]) ∧ Below w.heap.size w w' := by
  have hn1 : (n : Int) ≤ 1000000 := by omega
  go_enter Tryz.func65, Tryz.ntmps65
  go_wp2_with fail
  have e : ((n / 2 : Nat) : Int) = (n : Int) / 2 := by simp
  rw [e]
  have hB1 := (Blk.new w 106 #[.int .i64 0, .int .i64 ((n : Int) / 2)]).alloc (.cells #[.int .i64 ((n : Int) / 2), .int .i64 ((n : Int) / 2)] 106)
  have hB2 := Blk.newAt (w.alloc (.cells #[.int .i64 0, .int .i64 ((n : Int) / 2)] 106)) 106 #[.int .i64 ((n : Int) / 2), .int .i64 ((n : Int) / 2)] (w.heap.size + 1) (by simp)
  have hbF : Below w.heap.size w ((w.alloc (.cells #[.int .i64 0, .int .i64 ((n : Int) / 2)] 106)).alloc (.cells #[.int .i64 ((n : Int) / 2), .int .i64 ((n : Int) / 2)] 106)) := ((Below.refl _ w).alloc (Nat.le_refl _) _).alloc (by simp) _
  exact bodyPost_ret (results_cellR2 rfl _ rfl rfl hB1.range hB2.range Tryz.underlying106 rfl (by kernel_rfl) Tryz.underlying106 rfl (by kernel_rfl)) rfl ⟨rfl, hbF⟩
end Go.Proofs.YtombncedfleljaaGreat
namespace Go.Proofs.YtombncedfleljaaGreat
open Go.RowKit
attribute [local irreducible] wpQuiet wpAnyH
set_option linter.unusedSimpArgs false

theorem sliced_own {A : Option Addr} {i j m s k c : Nat} : ∀ b, (sliced A i j m s).ownBlock = some b → (Value.slice A k c).ownBlock = some b := by
  intro b h
  unfold Go.sliced at h
  cases A with
  | none => split at h <;> simp [Value.ownBlock] at h
  | some a =>
    obtain ⟨p, o, z⟩ := a
    split at h
    · exact h
    · simp only [Value.ownBlock, Option.map_some, Addr.add] at h
      split at h <;> exact h
set_option maxRecDepth 100000 in
set_option maxHeartbeats 1000000 in
theorem clone_bytesF (va : Value) (n : Nat) (xs : List Value) (w : World) (hs : Sn w 1 va n xs) (h1 : ∀ u ∈ xs, u.oneCell' = true) (hn : n ≤ 1000000) :
    Calls Tryz.prog 140 #[va] w fun e w' => ∃ v, e = .returned v ∧ Sn w' 1 v n xs ∧ (∀ b, v.ownBlock = some b → w.heap.size ≤ b) ∧ Below w.heap.size w w' := by
  obtain ⟨A, cap, rfl, hcap, hl, hx⟩ := id hs
  have HS := Lib.hid hs
  have HX := Lib.hid hx
  clear hx
  cases A with
  | none =>
    have heq : ∀ w : World, (binOp .eql 78 (.slice none n cap) (.slice none 0 0)).run Tryz.prog w = .ok (.bool true) w := fun _ => rfl
    go_enter Tryz.func140, Tryz.ntmps140
    go_wp2_with fail
    go_ret
    have hn0 : n = 0 := by
      rcases Nat.eq_zero_or_pos n with h | h
      · exact h
      · obtain ⟨b, off, e, _⟩ := HX.out h
        cases e
    subst hn0
    exact ⟨_, rfl, ⟨none, 0, rfl, Nat.le_refl _, hl, fun h => absurd h (by omega)⟩, (fun b e => by cases e), Below.refl _ _⟩
  | some a =>
    have heq : ∀ w : World, (binOp .eql 78 (.slice (some a) n cap) (.slice none 0 0)).run Tryz.prog w = .ok (.bool false) w := fun _ => rfl
    have hown : (w.alloc (.cells #[] 5)).ownsRow w.heap.size 5 1 (.slice (some ⟨w.heap.size, 0, none⟩) 0 0) 0 [] := own_new w #[] 5 1 0 w.heap.size w.heap.size (Nat.le_refl _) rfl (by unfold maxLen; omega) rfl
    go_enter Tryz.func140, Tryz.ntmps140
    clear hs
    go_wp2_with (at_builtin; refine app tByt (.tmp 5) (.tmp 6) rfl rfl rfl hown rfl (HS.out.alloc _) h1 (by unfold maxLen; omega) (by omega) (by simp) ?_; intro v' w3 hown3 hgrow _)
    go_ret
    have hb : Below w.heap.size w w3 := ((Below.refl _ w).alloc (Nat.le_refl _) _).grown hgrow (by simp) (fun g hg => by have := (hown.lt g hg).1; omega)
    have hlt := hown3.lt
    have := Sn.own hown3
    rw [Nat.zero_add, List.nil_append] at this
    exact ⟨_, rfl, this, fun b e => (hlt b e).1, hb⟩
set_option maxRecDepth 100000 in
set_option maxHeartbeats 1000000 in
theorem wire_newF (va : Value) (xs : List Int) (w : World) (hs : Sn w 1 va xs.length (u8s xs)) (hn : xs.length ≤ 1000000) :
    Calls Tryz.prog 120 #[va] w fun e w' => ∃ r v, e = .returned (.pointer (some ⟨r, 0, none⟩)) ∧ RD w' r v xs false ∧ (∀ b, v.ownBlock = some b → w.heap.size ≤ b) ∧ w.heap.size ≤ r ∧ Below w.heap.size w w' := by
  have HS := Lib.hid hs
  clear hs
  go_enter Tryz.func120, Tryz.ntmps120
  go_wp2_with fail
  refine (clone_bytesF va xs.length (u8s xs) w HS.out (u8s_mem xs) hn).mono ?_
  rintro e w1 ⟨v, rfl, hs1, hfr, hb1⟩
  obtain ⟨A, cap, rfl, hcap, hl, _⟩ := id hs1
  have HS1 := Lib.hid hs1
  have hsz := hb1.size
  have HFR := Lib.hid hfr
  clear hs1 hfr
  go_wp2_with fail
  go_ret
  exact ⟨_, _, rfl, ⟨Blk.new _ _ _, HS1.out.alloc _⟩, HFR.out, hsz, hb1.alloc hsz _⟩
set_option maxRecDepth 100000 in
set_option maxHeartbeats 1000000 in
theorem rd_nextF (r : Nat) (v : Value) (xs : List Int) (bad : Bool) (n : Nat) (w : World) (h : RD w r v xs bad) (hl : xs.length ≤ 1000000) :
    Calls Tryz.prog 158 #[.pointer (some ⟨r, 0, none⟩), .int .u64 n] w fun e w' => Off r w w' ∧
      ((bad = false ∧ n ≤ xs.length ∧ ∃ x v', e = .returned (.tuple #[x, .bool true]) ∧ Sn w' 1 x n (u8s (xs.take n)) ∧ RD w' r v' (xs.drop n) false ∧ ∀ b, v'.ownBlock = some b → v.ownBlock = some b) ∨
       ((bad = true ∨ xs.length < n) ∧ e = .returned (.tuple #[.slice none 0 0, .bool false]) ∧ RD w' r (.slice none 0 0) [] true)) := by
  obtain ⟨hB, hs⟩ := h
  obtain ⟨A, cap, rfl, hcap, hln, _⟩ := id hs
  have HS := Lib.hid hs
  have HB := Lib.hid hB
  have h0 := hB.cell 0
  have h1 := hB.cell 1
  have f0 := hB.frozen 0
  simp only [List.getElem?_toArray, List.getElem?_cons_zero, List.getElem?_cons_succ] at h0 h1
  have hcase : bad = true ∨ bad = false ∧ decide (xs.length < n) = true ∨ bad = false ∧ decide (xs.length < n) = false := by
    cases bad <;> cases decide (xs.length < n) <;> simp
  clear hB hs
  rcases hcase with rfl | ⟨rfl, t1⟩ | ⟨rfl, t1⟩
  · go_enter Tryz.func158, Tryz.ntmps158
    go_wp2_with fail
    refine (rd_fail r _ true w HB.out).mono ?_
    rintro e w1 ⟨rfl, hR, ho⟩
    go_wp2_with fail
    go_ret2
    exact ⟨ho, .inr ⟨.inl trivial, rfl, hR⟩⟩
  · go_enter Tryz.func158, Tryz.ntmps158
    go_wp2_with fail
    refine (rd_fail r _ false w HB.out).mono ?_
    rintro e w1 ⟨rfl, hR, ho⟩
    go_wp2_with fail
    go_ret2
    exact ⟨ho, .inr ⟨.inr (by have := of_decide_eq_true t1; omega), rfl, hR⟩⟩
  · have hn : n ≤ xs.length := by have := of_decide_eq_false t1; omega
    have hi1 : (n : Int) ≤ cap := by omega
    have hi2 : (n : Int) ≤ xs.length := by omega
    have hi0 : (0 : Int) ≤ n := by omega
    have hue := Tryz.underlying78
    go_enter Tryz.func158, Tryz.ntmps158
    have HR2 : Hid (Sn w 1 (sliced A 0 n n 1) n (u8s (xs.take n))) := Lib.hid (by
      have := HS.out.sliced 0 n n (by omega) hn (Nat.le_refl _)
      rw [u8s_take]
      simpa using this)
    have HR3 : Hid (Sn w 1 (sliced A n xs.length cap 1) (xs.drop n).length (u8s (xs.drop n))) := Lib.hid (by
      have := HS.out.sliced n xs.length cap hn (Nat.le_refl _) hcap
      rw [u8s_drop, List.length_drop]
      have e : (u8s xs).take (xs.length * 1) = u8s xs := List.take_of_length_le (by rw [u8s_length]; omega)
      rw [e] at this
      simpa using this)
    have hB3 := Lib.hid (HB.out.set_ 0 (sliced A n xs.length cap 1))
    have ho : Off r w (w.setCell ⟨r, 0, none⟩ (sliced A n xs.length cap 1)) := (Off.refl r w).set 0 _
    have HO := Lib.hid ho
    clear ho
    by_cases hcn : cap = n
    all_goals
      go_wp2_with fail
      go_ret2
      have hx2 := HR2.out.offB HB.out rfl HO.out
      have hx3 := HR3.out.offB HB.out rfl HO.out
      have e2 : sliced A 0 n n 1 = .slice A n n := by
        unfold Go.sliced
        cases A with
        | none => simp
        | some a => obtain ⟨b, o, s⟩ := a; simp [Addr.add]
      have hb3 := hB3.out
      rw [e2] at hx2
      refine ⟨?_, .inl ⟨trivial, hn, _, sliced A n xs.length cap 1, rfl, ?_, ?_⟩⟩
    · have e3 : sliced A n xs.length cap 1 = .slice A (xs.length - n) 0 := by simp [Go.sliced, hcn]
      rw [← e3]; exact HO.out
    · have e3 : sliced A n xs.length cap 1 = .slice A (xs.length - n) 0 := by simp [Go.sliced, hcn]
      rw [e3] at hx2; exact hx2
    · have e3 : sliced A n xs.length cap 1 = .slice A (xs.length - n) 0 := by simp [Go.sliced, hcn]
      rw [← e3]; exact ⟨⟨hb3, hx3⟩, sliced_own⟩
    · have e3 : sliced A n xs.length cap 1 = .slice (A.map (·.add n)) (xs.length - n) (cap - n) := by simp [Go.sliced, hcn]
      rw [← e3]; exact HO.out
    · have e3 : sliced A n xs.length cap 1 = .slice (A.map (·.add n)) (xs.length - n) (cap - n) := by simp [Go.sliced, hcn]
      rw [e3] at hx2; exact hx2
    · have e3 : sliced A n xs.length cap 1 = .slice (A.map (·.add n)) (xs.length - n) (cap - n) := by simp [Go.sliced, hcn]
      rw [← e3]; exact ⟨⟨hb3, hx3⟩, sliced_own⟩
set_option maxRecDepth 100000 in
set_option maxHeartbeats 1000000 in
theorem rd_TakeF (r : Nat) (v : Value) (xs : List Int) (bad : Bool) (n : Nat) (w : World) (h : RD w r v xs bad) (hl : xs.length ≤ 1000000) (hn : n ≤ 1000000) :
    Calls Tryz.prog 145 #[.pointer (some ⟨r, 0, none⟩), .int .i64 n] w fun e w' => Off r w w' ∧
      ((bad = false ∧ n ≤ xs.length ∧ ∃ x v', e = .returned x ∧ Sn w' 1 x n (u8s (xs.take n)) ∧ RD w' r v' (xs.drop n) false ∧ ∀ b, v'.ownBlock = some b → v.ownBlock = some b) ∨
       ((bad = true ∨ xs.length < n) ∧ e = .returned (.slice none 0 0) ∧ RD w' r (.slice none 0 0) [] true)) := by
  go_enter Tryz.func145, Tryz.ntmps145
  have HR := Lib.hid h
  have hi1 : (0 : Int) ≤ n := by omega
  have hi8 : (n : Int) ≤ 1000000 := by omega
  clear h
  go_wp2_with fail
  refine (rd_nextF r v xs bad n w HR.out hl).mono ?_
  rintro e w1 ⟨ho, ⟨rfl, hkl, x, v', rfl, hsx, hR, hob⟩ | ⟨hbad, rfl, hR⟩⟩
  · have HO := Lib.hid ho
    have HRR := Lib.hid hR
    have HSX := Lib.hid hsx
    have HK := Lib.hid hkl
    have HOB := Lib.hid hob
    clear ho hR hsx hkl hob
    go_wp2_with fail
    refine (clone_bytes x n (u8s (xs.take n)) w1 HSX.out (u8s_mem _) hn).mono ?_
    rintro e w2 ⟨y, rfl, hsy, hb2⟩
    go_wp2_with fail
    go_ret
    exact ⟨HO.out.trans (Off.of_below hb2), .inl ⟨HK.out, y, rfl, hsy, v', ⟨HRR.out.1.keep hb2, HRR.out.2.below hb2⟩, HOB.out⟩⟩
  · have HO := Lib.hid ho
    have HRR := Lib.hid hR
    have HBD := Lib.hid hbad
    clear ho hR hbad
    go_wp2_with fail
    go_ret
    exact ⟨HO.out, .inr ⟨HBD.out, rfl, HRR.out⟩⟩
end Go.Proofs.YtombncedfleljaaGreat
