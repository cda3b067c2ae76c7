/- FaultFirst: the walk of the law. -/
import Derived.Test.YtlbijlonpcgccaaAwake02
import Derived.Test.YtlbijlonpcgccaaMem
namespace Go.Proofs.Ytlbijlonpcgccaa
open Go.RowKit

theorem tCodes : SlT Try.prog 43 32 1 8 := SlT.mk' Try.underlying43 (z := .int .i64 0) (by kernel_rfl) rfl (by decide)
theorem tInts : SlT Try.prog 42 3 1 8 := SlT.mk' Try.underlying42 (z := .int .i64 0) (by kernel_rfl) rfl (by decide)
theorem i64s_one (l : List Int) : ∀ u ∈ i64s l, u.oneCell' = true := by
  intro u hu
  obtain ⟨x, _, rfl⟩ := List.mem_map.1 hu
  rfl
theorem i64s_snoc (l : List Int) (k : Nat) (h : k < l.length) : i64s (l.take k) ++ [.int .i64 l[k]] = i64s (l.take (k + 1)) := by
  rw [List.take_succ_eq_append_getElem h]; unfold i64s; rw [List.map_append]; rfl
theorem i64s_append (l r : List Int) : i64s (l ++ r) = i64s l ++ i64s r := by simp [i64s]

theorem first_reduce (a b : List Int) : firstOf (a ++ b) = firstOf [firstOf a, firstOf b] := by
  have key : ∀ (l : List Int) (m : Int), m ≤ 10 → 1 ≤ firstTo 10 l ∧ (1 ≤ m → (firstTo m l = if firstTo 10 l < m then firstTo 10 l else m)) ∧ firstTo 10 l ≤ 10 := by
    intro l
    induction l with
    | nil => intro m hm; simp [firstTo]; omega
    | cons c l ih =>
      intro m hm
      have h1 := ih (if 1 ≤ c ∧ c < 10 then c else 10) (by split <;> omega)
      have h2 := ih (if 1 ≤ c ∧ c < m then c else m) (by split <;> omega)
      have h3 := h1.2.1 (by split <;> omega)
      have e1 : firstTo 10 (c :: l) = firstTo (if 1 ≤ c ∧ c < 10 then c else 10) l := rfl
      have e2 : firstTo m (c :: l) = firstTo (if 1 ≤ c ∧ c < m then c else m) l := rfl
      rw [h3] at e1
      refine ⟨?_, fun h => ?_, ?_⟩
      · rw [e1]; repeat' split
        all_goals omega
      · have h4 := h2.2.1 (by split <;> omega)
        rw [h4] at e2
        rw [e1, e2]
        generalize firstTo 10 l = t at *
        clear h1 h2 h3 h4 e1 e2 ih
        repeat' split
        all_goals omega
      · rw [e1]; repeat' split
        all_goals omega
  have ha := key a 10 (by omega)
  have hb := key b (firstTo 10 a) (by omega)
  have hb0 := key b 10 (by omega)
  unfold firstOf
  rw [firstTo_append, hb.2.1 (by omega)]
  simp only [firstTo]
  repeat' split
  all_goals omega

def LoopRow (w : World) (e : Nat) (l : List Int) (k : Nat) (v : Value) (wr : World) : Prop := wr.ownsRow w.heap.size e 1 v k (i64s (l.take k)) ∧ Below w.heap.size w wr
theorem LoopRow.start (w : World) (e : Nat) (l : List Int) (wr : World) (hb : Below w.heap.size w wr) : LoopRow w e l 0 (.slice none 0 0) wr := ⟨World.ownsRow_nil _ _ _ _, hb⟩
theorem LoopRow.next {w wr w1 : World} {e k : Nat} {l : List Int} {v v' : Value} (h : LoopRow w e l k v wr) (o : Obj) (hk : k < l.length) (hown : w1.ownsRow w.heap.size e 1 v' (k + 1) (i64s (l.take k) ++ [.int .i64 l[k]]))
    (hg : (wr.alloc o).grownBy w1 v.ownBlock) : LoopRow w e l (k + 1) v' w1 := by
  rw [i64s_snoc l k hk] at hown
  exact ⟨hown, (h.2.alloc h.2.size o).grown hg (by have := h.2.size; simp; omega) (fun g hg => (h.1.lt g hg).1)⟩

set_option maxRecDepth 100000 in
set_option maxHeartbeats 1000000 in
theorem faultFirst_big (va vb : Value) (a b : List Int) (w : World) (ha : Sl w va (i64s a)) (hb : Sl w vb (i64s b)) (h : 50 < a.length ∨ 50 < b.length) :
    Calls Try.prog 5 #[va, vb] w fun e w' => e = .returned (.bool true) ∧ Below w.heap.size w w' := by
  obtain ⟨A, ca, rfl, hca, _⟩ := ha
  obtain ⟨B, cb, rfl, hcb, _⟩ := hb
  rw [i64s_length] at hca hcb ⊢
  rw [i64s_length]
  by_cases h1 : 50 < a.length
  · have t1 : decide ((50 : Int) < a.length) = true := by simp; omega
    go_enter Try.func5, Try.ntmps5
    go_wp2_with fail
    refine (awake_any w).mono ?_
    rintro e w1 ⟨rfl, hb1⟩
    go_wp2_with fail
    refine (awake_any w1).mono ?_
    rintro e w2 ⟨rfl, hb2⟩
    go_wp2_with fail
    go_ret
    exact ⟨rfl, bstep hb1 hb2⟩
  · have t1 : decide ((50 : Int) < a.length) = false := by simp; omega
    have t2 : decide ((50 : Int) < b.length) = true := by simp; omega
    go_enter Try.func5, Try.ntmps5
    go_wp2_with fail
    refine (awake_any w).mono ?_
    rintro e w1 ⟨rfl, hb1⟩
    go_wp2_with fail
    refine (awake_any w1).mono ?_
    rintro e w2 ⟨rfl, hb2⟩
    go_wp2_with fail
    go_ret
    exact ⟨rfl, bstep hb1 hb2⟩

set_option maxRecDepth 100000 in
set_option maxHeartbeats 1000000 in
theorem faultFirst_walk (va vb : Value) (a b : List Int) (w : World) (ha : Sl w va (i64s a)) (hb : Sl w vb (i64s b)) (h1 : a.length ≤ 50) (h2 : b.length ≤ 50) :
    Calls Try.prog 5 #[va, vb] w fun e w' => e = .returned (.bool true) ∧ Below w.heap.size w w' := by
  obtain ⟨A, ca, hva, hca, hxa⟩ := id ha
  obtain ⟨B, cb, hvb, hcb, hxb⟩ := id hb
  rw [i64s_length] at hca hcb hva hvb hxa hxb
  have HA := Lib.hid (hva ▸ ha)
  have HB := Lib.hid (hvb ▸ hb)
  rw [hva, hvb]
  clear ha hb
  clear hva hvb
  have t1 : decide ((50 : Int) < a.length) = false := by simp; omega
  have t2 : decide ((50 : Int) < b.length) = false := by simp; omega
  go_enter Try.func5, Try.ntmps5
  go_wp2_with fail
  refine (awake_any w).mono ?_
  rintro e w1 ⟨rfl, hb1⟩
  go_wp2_with fail
  go_loopw [5, 6] (fun v i wr => ∃ k : Nat, k ≤ a.length ∧ i = .int .i64 k ∧ LoopRow w 32 a k v wr) (fun _ i _ => a.length - (intOf i).toNat)
  case atStart => exact ⟨0, Nat.zero_le _, rfl, LoopRow.start w _ a w1 hb1⟩
  case round =>
    obtain ⟨k, hk, rfl, hr⟩ := hrel
    rcases Nat.lt_or_ge k a.length with hlt | hge
    · obtain ⟨b0, off, rfl, hc⟩ := hxa (by omega)
      have hcell := Below.cell' hr.2 (hc k _ (by rw [i64s, List.getElem?_map, List.getElem?_eq_getElem hlt]; rfl))
      have hs := hr.2.size
      clear hxa hc hxb
      go_wp2_with (at_builtin; refine app tCodes (.tmp 30) (.tmp 35) rfl rfl rfl (hr.1.alloc _) rfl (Sn.new wr #[.int .i64 a[k]] _ 1 1 rfl) (by simp [Value.oneCell']) (by unfold maxLen; omega) (by omega) (by simp; omega) ?_; intro v' w2 hown1 hg1 hat1)
      have hnext := hr.next _ hlt hown1 hg1
      clear hown1 hg1 hat1 hr
      exact ⟨⟨k + 1, by omega, by go_num, hnext⟩, by simp [intOf]; omega⟩
    · obtain rfl : k = a.length := by omega
      obtain ⟨hown1, hbr⟩ := hr
      rw [List.take_length] at hown1
      clear hxa hk hge
      obtain ⟨wo, rfl⟩ : ∃ wo : World, wo = wr := ⟨_, rfl⟩
      go_wp2_with fail
      go_loopw [7, 8] (fun v i ws => ∃ k : Nat, k ≤ b.length ∧ i = .int .i64 k ∧ LoopRow wo 32 b k v ws) (fun _ i _ => b.length - (intOf i).toNat)
      case atStart => exact ⟨0, Nat.zero_le _, rfl, LoopRow.start wo _ b wo (Below.refl _ _)⟩
      case round =>
        obtain ⟨k, hk, rfl, hr⟩ := hrel
        rcases Nat.lt_or_ge k b.length with hlt | hge
        · obtain ⟨b0, off, rfl, hc⟩ := hxb (by omega)
          have hcell := Below.cell' (bstep hbr hr.2) (hc k _ (by rw [i64s, List.getElem?_map, List.getElem?_eq_getElem hlt]; rfl))
          have hs := hr.2.size
          clear hxb hc
          go_wp2_with (at_builtin; refine app tCodes (.tmp 43) (.tmp 48) rfl rfl rfl (hr.1.alloc _) rfl (Sn.new _ #[.int .i64 b[k]] _ 1 1 rfl) (by simp [Value.oneCell']) (by unfold maxLen; omega) (by omega) (by simp; omega) ?_; intro v' w2 hown2 hg1 hat1)
          have hnext := hr.next _ hlt hown2 hg1
          clear hown2 hg1 hat1 hr
          exact ⟨⟨k + 1, by omega, by go_num, hnext⟩, by simp [intOf]; omega⟩
        · obtain rfl : k = b.length := by omega
          obtain ⟨hown2, hbs⟩ := hr
          rw [List.take_length] at hown2
          have hown1' := own_below hown1 hbs
          have hb3 := bstep hbr hbs
          have hs3 := hb3.size
          have hs4 := hbs.size
          have hf := first_reduce a b
          clear hxb hk hge hown1 hb1
          go_wp2_with fail
          refine (first_any _ a wr (Sn.own hown1').sl (by omega)).mono ?_
          rintro e w2 ⟨rfl, rfl⟩
          go_wp2_with fail
          refine (first_any _ b wr (Sn.own hown2).sl (by omega)).mono ?_
          rintro e w2 ⟨rfl, rfl⟩
          go_wp2_with fail
          refine (ref_first_any _ a wr (HA.out.below hb3) (by omega)).mono ?_
          rintro e w2 ⟨rfl, rfl⟩
          go_wp2_with (at_builtin; refine app tCodes (.tmp 59) (.tmp 60) rfl rfl rfl hown1' rfl (Sn.own hown2) (i64s_one b) (by unfold maxLen; omega) (by omega) (by omega) ?_; intro v' w4 hown4 hg4 hat4)
          have hb4 := hb3.grown (show wr.grownBy w4 u5.ownBlock from hg4) hs3 (fun k hk => (hown1'.lt k hk).1)
          have hs5 := hb4.size
          have hsl4 := (Sn.own hown4).sl
          rw [← i64s_append] at hsl4
          clear hown4 hg4 hat4 hown1' hown2 hbs
          go_wp2_with fail
          refine (first_any _ (a ++ b) w4 hsl4 (by simp; omega)).mono ?_
          rintro e w5 ⟨rfl, rfl⟩
          go_wp2_with fail
          refine (first_any _ [firstOf a, firstOf b] _ (Sn.new w4 #[.int .i64 (firstOf a), .int .i64 (firstOf b)] _ 1 2 rfl).sl (by simp)).mono ?_
          rintro e w5 ⟨rfl, rfl⟩
          go_wp2_with fail
          refine (first_any _ [firstOf a, firstOf b] _ (Sn.newAt _ #[.int .i64 (firstOf a), .int .i64 (firstOf b)] _ 1 2 _ rfl (by simp)).sl (by simp)).mono ?_
          rintro e w5 ⟨rfl, rfl⟩
          obtain ⟨w6, hw6⟩ : ∃ w6, w6 = ((w4.alloc (Obj.cells #[Value.int IntKind.i64 (firstOf a), Value.int IntKind.i64 (firstOf b)] 32)).alloc (Obj.cells #[Value.int IntKind.i64 (firstOf a), Value.int IntKind.i64 (firstOf b)] 32)) := ⟨_, rfl⟩
          have hb6 : Below w.heap.size w w6 := by rw [hw6]; exact balloc (balloc hb4 _) _
          have hs6 := hb6.size
          rw [← hw6]
          clear hw6 hsl4 hb4 hs5
          go_wp2_with (first
            | (at_builtin; refine app tInts (.tmp 74) (.tmp 75) rfl rfl rfl (own_new w6 #[] 3 1 0 w.heap.size _ hs6 rfl (by decide) rfl) rfl ((HA.out.below (balloc hb6 _)).sn) (i64s_one a) (by rw [i64s_length]; unfold maxLen; omega) (by rw [i64s_length]; omega) (by simp; omega) ?_; intro v7 w7 hown7 hg7 _; have hb7 := (balloc hb6 (Obj.cells #[] 3)).grown hg7 (balloc hb6 _).size (fun k hk => ((own_new w6 #[] 3 1 0 w.heap.size _ hs6 rfl (by decide) rfl).lt k hk).1); clear hg7; rw [i64s_length, Nat.zero_add, List.nil_append] at hown7)
            | (at_builtin; refine app tInts (.tmp 76) (.tmp 77) rfl rfl rfl hown7 rfl ((HB.out.below hb7).sn) (i64s_one b) (by rw [i64s_length]; unfold maxLen; omega) (by rw [i64s_length]; omega) hb7.size ?_; intro v8 w8 hown8 hg8 _; have hb8 := hb7.grown hg8 hb7.size (fun k hk => (hown7.lt k hk).1); clear hg8 hown7 hb7; rw [i64s_length, ← i64s_append] at hown8))
          refine (ref_first_any _ (a ++ b) w8 (Sn.own hown8).sl (by simp; omega)).mono ?_
          rintro e w9 ⟨rfl, rfl⟩
          clear hown8
          go_wp2_with fail
          go_ret
          exact ⟨rfl, hb8⟩
end Go.Proofs.Ytlbijlonpcgccaa
