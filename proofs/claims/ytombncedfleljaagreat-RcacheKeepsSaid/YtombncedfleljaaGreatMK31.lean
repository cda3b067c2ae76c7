/- Parts: rcache on a disk without plans (plain); the values of awake. | tolllaw21.awake. | RcacheKeeps: what stands between two operations. -/
import Derived.Test.YtombncedfleljaaGreatMK30
import Derived.Test.YtombncedfleljaaGreatMK29
namespace Go.Proofs.YtombncedfleljaaGreat
open Go.RowKit
attribute [local irreducible] wpQuiet wpAnyH
set_option linter.unusedSimpArgs false
set_option linter.unusedVariables false

theorem rew_q {sec : List (List Int)} {st r h : Nat} {L : LogD} {qs : List Ent2} (hb : L.brk = false) (hs : L.side < 2) (hg : max L.last L.gen < 4294967295) (hr : ∀ q ∈ qs, rightE q = true) (hc : qs.length + 1 ≤ h) (hl : h + h ≤ sec.length) (hst : st ≤ r) :
    ∃ sec' st' r', r' ≤ r + 2 * qs.length + 10 ∧ st' ≤ r' ∧ sec'.length = sec.length ∧ rewR (qD sec [] st r) h L qs = (none, qD sec' [] st' r', { L with side := 1 - L.side, gen := max L.last L.gen + 1, cnt := qs.length }) := by
  rw [rewR_vals hb hg]
  unfold rewS
  obtain ⟨g, hgg⟩ : ∃ g, g = max L.last L.gen + 1 := ⟨_, rfl⟩
  rw [← hgg]
  have hsd := sides (h := h) (s := 1 - L.side) (by omega)
  obtain ⟨f, hf⟩ : ∃ f, f = sFrom h (1 - L.side) := ⟨_, rfl⟩
  rw [← hf] at hsd ⊢
  rcases fill_vals (qD sec [] st r) (f : Int) h g qs with ⟨h1, _⟩ | ⟨_, e⟩ | ⟨_, _, e⟩
  · rw [room_half (by omega)] at h1; omega
  · unfold fillR at e
    rw [room_half (by omega), if_neg (by omega), if_pos (List.all_eq_true.2 hr)] at e
    obtain ⟨r2, _, h2⟩ := fillW_q (qs.map (entRec g)) sec [] st r ((f : Int) + 1) (by omega) (by rw [List.length_map]; omega) hst
    rw [h2] at e
    cases e
  · obtain ⟨r2, hr2, h2⟩ := fillW_q (qs.map (entRec g)) sec [] st r ((f : Int) + 1) (by omega) (by rw [List.length_map]; omega) hst
    rw [e, h2]
    simp only
    have hl2 : (setAll sec ([] ++ wrs ((f : Int) + 1) (qs.map (entRec g)))).length = sec.length := setAll_length _ _
    obtain ⟨r3, h3, h4, h5⟩ := wsD_q (sec := setAll sec ([] ++ wrs ((f : Int) + 1) (qs.map (entRec g)))) (st := st + (qs.map (entRec g)).length + 1) (r := r2) (a := (f : Int)) (by omega) (by omega) (rec g toll)
    rw [wsA_q (by omega) (by omega), h5]
    rw [List.length_map] at hr2 h3 h4
    refine ⟨_, _, r3, ?_, ?_, ?_, rfl⟩
    · omega
    · rw [List.length_map]; omega
    · rw [List.length_set, hl2]
/-- An open cache on a disk without plans that runs. -/
structure QS (N : Nat) (d : DiskD) (C : CacheD) (b : Nat) : Prop where
  q : ∃ sec st r, d = qD sec [] st r ∧ sec.length = N ∧ st ≤ r ∧ r ≤ 100 * b
  brk : C.L.brk = false
  side : C.L.side < 2
  gen : max C.L.last C.L.gen ≤ b
  wl : WL C.E
  ri : ∀ q ∈ C.E, rightE q = true
  bb : b ≤ 200
theorem QS.more {N : Nat} {d : DiskD} {C : CacheD} {b b' : Nat} (h : QS N d C b) (hb : b ≤ b') (hb2 : b' ≤ 200) : QS N d C b' := by
  obtain ⟨sec, st, r, h1, h2, h3, h4⟩ := h.q
  exact ⟨⟨sec, st, r, h1, h2, h3, by omega⟩, h.brk, h.side, by have := h.gen; omega, h.wl, h.ri, hb2⟩
theorem refPut_sub (L : EL) (e : List Int × Int) (P : List Int × Int → Prop) (h : ∀ p ∈ L, P p) (he : P e) : ∀ p ∈ (refPut L e).1, P p := by
  have key : ∀ (L : EL) (s : EL × Bool), (∀ p ∈ L, P p) → (∀ p ∈ s.1, P p) → ∀ p ∈ (L.foldl (putStep e) s).1, P p := by
    intro L
    induction L with
    | nil => intro s _ h; exact h
    | cons q L ih =>
      intro s hL hs
      refine ih _ (fun p hp => hL p (List.mem_cons_of_mem _ hp)) (fun p hp => ?_)
      have hq := hL q (List.mem_cons_self ..)
      unfold putStep at hp
      have h2 : ∀ p ∈ (if (!s.2 && decide (cmpE e q < 0)) = true then (s.1 ++ [e], true) else s).1, P p := fun p hp => by
        split at hp
        · rcases List.mem_append.1 hp with hp | hp
          · exact hs p hp
          · rw [List.mem_singleton.1 hp]; exact he
        · exact hs p hp
      simp only at hp
      split at hp
      · exact h2 p hp
      · rcases List.mem_append.1 hp with hp | hp
        · exact h2 p hp
        · rw [List.mem_singleton.1 hp]; exact hq
  have hput : ∀ p ∈ (putS L e).1, P p := key L ([], false) h (fun p hp => by cases hp)
  intro p hp
  unfold refPut at hp
  split at hp
  · exact h p hp
  · simp only at hp
    split at hp
    · exact hput p hp
    · rcases List.mem_append.1 hp with hp | hp
      · exact hput p hp
      · rw [List.mem_singleton.1 hp]; exact he
theorem cmp_q {N b : Nat} {d : DiskD} {C : CacheD} (h : QS N d C b) (now : Int) (hl : (liveL C.E now).length + 1 ≤ N / 2) (hb : b + 1 ≤ 200) (hn : N ≤ 30) :
    ∃ d' C', cmpR d (N / 2) C now = (none, d', C') ∧ QS N d' C' (b + 1) ∧ C'.L.cnt = (liveL C.E now).length ∧ C'.E = liveL C.E now ∧ C'.til = C.til := by
  obtain ⟨sec, st, r, rfl, h2, h3, h4⟩ := h.q
  have hri : ∀ q ∈ liveL C.E now, rightE q = true := fun q hq => h.ri q (List.mem_filter.1 hq).1
  have hg := h.gen
  obtain ⟨sec', st', r', a1, a2, a3, a4⟩ := rew_q (sec := sec) (st := st) (r := r) (h := N / 2) (L := C.L) (qs := liveL C.E now) h.brk h.side (by omega) hri hl (by omega) h3
  unfold cmpR
  rw [a4]
  refine ⟨_, _, rfl, ⟨⟨sec', st', r', rfl, by omega, a2, by omega⟩, h.brk, by show 1 - C.L.side < 2; omega, by show max C.L.last (max C.L.last C.L.gen + 1) ≤ b + 1; omega, h.wl.live now, hri, hb⟩, rfl, rfl, rfl⟩
theorem insT_q {N b : Nat} {d : DiskD} {C : CacheD} {q : Ent2} (h : QS N d C b) (hq : EntOk q) (hr : rightE q = true) (hc : C.L.cnt + 1 < N / 2) (hb : b + 1 ≤ 200) :
    ∃ d' C', insT d (N / 2) C q = (10, d', C') ∧ QS N d' C' (b + 1) ∧ C'.L.cnt = C.L.cnt + 1 ∧ C'.E = (refPut C.E q).1 ∧ C'.til = C.til := by
  obtain ⟨sec, st, r, rfl, h2, h3, h4⟩ := h.q
  obtain ⟨sec', r', a1, a2, a3, a4, a5, a6⟩ := app_q (sec := sec) (st := st) (r := r) (h := N / 2) (L := C.L) (q := q) h.brk hr h.side hc (by omega)
  unfold insT
  rw [if_neg (by omega), a4, a5, a6]
  refine ⟨_, _, rfl, ⟨⟨sec', st + 2, r', rfl, by omega, a2, by omega⟩, h.brk, h.side, by have := h.gen; show max C.L.last C.L.gen ≤ b + 1; omega, h.wl.put hq, refPut_sub _ _ _ h.ri hr, hb⟩, rfl, rfl, rfl⟩
theorem insR_q {N b : Nat} {d : DiskD} {C : CacheD} {q : Ent2} {now : Int} (h : QS N d C b) (hr : rightE q = true) (hh : hasE C.E q.1 now = false) :
    insR d (N / 2) C q now = if N / 2 - 1 ≤ C.L.cnt then (match (cmpR d (N / 2) C now).1 with
    | some x => (ansC (some x), (cmpR d (N / 2) C now).2.1, (cmpR d (N / 2) C now).2.2)
    | none => insT (cmpR d (N / 2) C now).2.1 (N / 2) (cmpR d (N / 2) C now).2.2 q) else insT d (N / 2) C q := by
  unfold rightE at hr
  obtain ⟨r1, r2⟩ := (Bool.and_eq_true _ _).mp hr
  have r3 := of_decide_eq_true r1
  have r4 := of_decide_eq_true r2
  unfold insR
  rw [if_neg (by rw [hh]; simp), if_neg (by rw [h.brk]; simp), if_neg (by omega), if_neg (by omega)]
  rfl
theorem ins_q1 {N b : Nat} {d : DiskD} {C : CacheD} {q : Ent2} {now : Int} (h : QS N d C b) (hq : EntOk q) (hr : rightE q = true) (hh : hasE C.E q.1 now = false) (hc : C.L.cnt + 1 < N / 2) (hb : b + 1 ≤ 200) :
    ∃ d' C', insR d (N / 2) C q now = (10, d', C') ∧ QS N d' C' (b + 1) ∧ C'.L.cnt = C.L.cnt + 1 ∧ C'.E = (refPut C.E q).1 ∧ C'.til = C.til := by
  rw [insR_q h hr hh, if_neg (by omega)]
  exact insT_q h hq hr hc hb
theorem ins_q2 {N b : Nat} {d : DiskD} {C : CacheD} {q : Ent2} {now : Int} (h : QS N d C b) (hr : rightE q = true) (hh : hasE C.E q.1 now = false) (hc : N / 2 - 1 ≤ C.L.cnt) (hl : (liveL C.E now).length + 1 = N / 2) (hb : b + 1 ≤ 200) (hn : N ≤ 30) :
    ∃ d' C', insR d (N / 2) C q now = (9, d', C') ∧ QS N d' C' (b + 1) ∧ C'.L.cnt = (liveL C.E now).length ∧ C'.E = liveL C.E now ∧ C'.til = C.til := by
  obtain ⟨d', C', a1, a2, a3, a4, a5⟩ := cmp_q h now (by omega) hb hn
  rw [insR_q h hr hh, if_pos hc, a1]
  refine ⟨d', C', ?_, a2, a3, a4, a5⟩
  show insT d' (N / 2) C' q = _
  unfold insT
  rw [if_pos (by omega)]
theorem ins_q3 {N b : Nat} {d : DiskD} {C : CacheD} {q : Ent2} {now : Int} (h : QS N d C b) (hq : EntOk q) (hr : rightE q = true) (hh : hasE C.E q.1 now = false) (hc : N / 2 - 1 ≤ C.L.cnt) (hl : (liveL C.E now).length + 1 < N / 2) (hb : b + 2 ≤ 200) (hn : N ≤ 30) :
    ∃ d' C', insR d (N / 2) C q now = (10, d', C') ∧ QS N d' C' (b + 2) ∧ C'.L.cnt = (liveL C.E now).length + 1 ∧ C'.E = (refPut (liveL C.E now) q).1 ∧ C'.til = C.til := by
  obtain ⟨d1, C1, a1, a2, a3, a4, a5⟩ := cmp_q h now (by omega) (by omega) hn
  rw [insR_q h hr hh, if_pos hc, a1]
  obtain ⟨d2, C2, b1, b2, b3, b4, b5⟩ := insT_q (q := q) a2 hq hr (by omega) (by omega)
  exact ⟨d2, C2, b1, b2, by rw [b3, a3], by rw [b4, a4], by rw [b5, a5]⟩
theorem QS.new (t : Int) : ∃ d L, openR (newD 8) = (none, d, some (L, [])) ∧ QS 8 d ⟨L, [], t⟩ 1 ∧ L.cnt = 0 ∧ d.room ≤ 10 := by
  obtain ⟨r', hr, h⟩ := open_new 8 (by omega)
  refine ⟨_, _, h, ⟨⟨_, 3, r', rfl, ?_, by omega, by omega⟩, rfl, by show 0 < 2; omega, by show max 0 1 ≤ 1; omega, WL.nil, (fun q hq => by cases hq), by omega⟩, rfl, by show r' ≤ 10; omega⟩
  rw [List.length_set, List.length_replicate]
/-- The entries of awake. -/
def q1 : Ent2 := numI 1 20
def q2 : Ent2 := numI 2 20
def q3 : Ent2 := numI 3 20
def q4 : Ent2 := numI 4 20
def q5 : Ent2 := numI 4 30
theorem q_vals : hasE [] q1.1 10 = false ∧ hasE (refPut [] q1).1 q1.1 20 = true ∧ hasE (refPut [] q1).1 q2.1 10 = false ∧ hasE (refPut (refPut [] q1).1 q2).1 q3.1 10 = false ∧
    hasE (refPut (refPut (refPut [] q1).1 q2).1 q3).1 q4.1 10 = false ∧ (liveL (refPut (refPut (refPut [] q1).1 q2).1 q3).1 10).length = 3 ∧
    hasE (liveL (refPut (refPut (refPut [] q1).1 q2).1 q3).1 10) q5.1 21 = false ∧ liveL (liveL (refPut (refPut (refPut [] q1).1 q2).1 q3).1 10) 21 = [] := by
  refine ⟨by kernel_rfl, by kernel_rfl, by kernel_rfl, by kernel_rfl, by kernel_rfl, by kernel_rfl, by kernel_rfl, by kernel_rfl⟩
theorem QS.rm {N b : Nat} {d : DiskD} {C : CacheD} (h : QS N d C b) : d.room ≤ 100 * b := by
  obtain ⟨sec, st, r, rfl, _, _, h4⟩ := h.q
  exact h4
theorem q_ok : EntOk q1 ∧ EntOk q2 ∧ EntOk q3 ∧ EntOk q4 ∧ EntOk q5 := ⟨numI_ok _ _ ⟨by decide, by decide⟩, numI_ok _ _ ⟨by decide, by decide⟩, numI_ok _ _ ⟨by decide, by decide⟩, numI_ok _ _ ⟨by decide, by decide⟩, numI_ok _ _ ⟨by decide, by decide⟩⟩
theorem q_ri : rightE q1 = true ∧ rightE q2 = true ∧ rightE q3 = true ∧ rightE q4 = true ∧ rightE q5 = true := by
  refine ⟨by kernel_rfl, by kernel_rfl, by kernel_rfl, by kernel_rfl, by kernel_rfl⟩
theorem awake21_vals : ∃ (d1 d2 d3 d4 d5 d6 : DiskD) (L1 : LogD) (C2 C3 C4 C5 C6 : CacheD), openR (newD 8) = (none, d1, some (L1, [])) ∧
    insR d1 (8 / 2) ⟨L1, [], 15⟩ q1 10 = (10, d2, C2) ∧ insR d2 (8 / 2) C2 q1 20 = (8, d2, C2) ∧ insR d2 (8 / 2) C2 q2 10 = (10, d3, C3) ∧ insR d3 (8 / 2) C3 q3 10 = (10, d4, C4) ∧
    insR d4 (8 / 2) C4 q4 10 = (9, d5, C5) ∧ insR d5 (8 / 2) C5 q5 21 = (10, d6, C6) ∧ C6.L.cnt = 1 ∧ d1.room ≤ 1000 ∧ d2.room ≤ 1000 ∧ d3.room ≤ 1000 ∧ d4.room ≤ 1000 ∧ d5.room ≤ 1000 := by
  obtain ⟨v1, v2, v3, v4, v5, v6, v7, v8⟩ := q_vals
  obtain ⟨k1, k2, k3, k4, k5⟩ := q_ok
  obtain ⟨r1, r2, r3, r4, r5⟩ := q_ri
  obtain ⟨d1, L1, o1, s1, n1, m1⟩ := QS.new 15
  obtain ⟨d2, C2, i1, s2, n2, e2, _⟩ := ins_q1 (q := q1) (now := 10) s1 k1 r1 v1 (by show L1.cnt + 1 < 4; omega) (by omega)
  replace e2 : C2.E = (refPut [] q1).1 := e2
  replace n2 : C2.L.cnt = L1.cnt + 1 := n2
  have i2 : insR d2 (8 / 2) C2 q1 20 = (8, d2, C2) := by unfold insR; rw [if_pos (by rw [e2]; exact v2)]
  obtain ⟨d3, C3, i3, s3, n3, e3, _⟩ := ins_q1 (q := q2) (now := 10) s2 k2 r2 (by rw [e2]; exact v3) (by omega) (by omega)
  rw [e2] at e3
  obtain ⟨d4, C4, i4, s4, n4, e4, _⟩ := ins_q1 (q := q3) (now := 10) s3 k3 r3 (by rw [e3]; exact v4) (by omega) (by omega)
  rw [e3] at e4
  obtain ⟨d5, C5, i5, s5, n5, e5, _⟩ := ins_q2 (q := q4) (now := 10) s4 r4 (by rw [e4]; exact v5) (by omega) (by rw [e4, v6]) (by omega) (by omega)
  rw [e4] at n5 e5
  rw [v6] at n5
  obtain ⟨d6, C6, i6, s6, n6, e6, _⟩ := ins_q3 (q := q5) (now := 21) s5 k5 r5 (by rw [e5]; exact v7) (by omega) (by rw [e5, v8]; decide) (by omega) (by omega)
  rw [e5, v8] at n6
  exact ⟨d1, d2, d3, d4, d5, d6, L1, C2, C3, C4, C5, C6, o1, i1, i2, i3, i4, i5, i6, n6, by have := s1.rm; omega, by have := s2.rm; omega, by have := s3.rm; omega, by have := s4.rm; omega, by have := s5.rm; omega⟩
end Go.Proofs.YtombncedfleljaaGreat
namespace Go.Proofs.YtombncedfleljaaGreat
open Go.RowKit
attribute [local irreducible] wpQuiet wpAnyH
set_option linter.unusedSimpArgs false
set_option linter.unusedVariables false

theorem eq_nilT21 : ∀ w, (binOp .eql 42 .nilIface .nilIface).run Tryz.prog w = .ok (.bool true) w := fun w => by kernel_rfl
theorem c_insert_nil (q : Ent2) (now : Int) (w : World) (hq : EntOk q) : Calls Tryz.prog 11 #[.pointer none, .agg (entP q).toArray, .int .i64 now] w fun e w' => e = .returned (.int .i64 9) ∧ Below w.heap.size w w' := by
  obtain ⟨w1, hw1⟩ : ∃ w1, w1 = w.alloc (.cells (entP q).toArray 35) := ⟨_, rfl⟩
  have HB1 : Hid (Below w.heap.size w w1) := Lib.hid (by rw [hw1]; exact bel1 _ _)
  go_enter Tryz.func11, Tryz.ntmps11
  go_upto_region 1 with fail
  rw [← hw1]
  clear hw1
  go_wp2_with fail
  go_ret
  exact ⟨rfl, HB1.out⟩
/-- What stands between two inserts of awake. -/
structure AW (w W : World) (m : DiskM) (d : DiskD) (gc gl gi bi n gq : Nat) (C : CacheD) : Prop where
  st : St w W m d
  ck : CK W m d gc gl gi bi (8 / 2) n C
  g : w.heap.size ≤ gl ∧ w.heap.size ≤ bi
  q : Blk W gq 35 (entP q1).toArray
  f : Far m [gl, bi] gq
theorem AW.keep {w W W' : World} {m : DiskM} {d : DiskD} {gc gl gi bi n gq : Nat} {C : CacheD} (h : AW w W m d gc gl gi bi n gq C) (hb : Below W.heap.size W W') : AW w W' m d gc gl gi bi n gq C := ⟨h.st.keep hb, h.ck.keep hb, h.g, h.q.keep hb, h.f⟩
theorem AW.ins {w W : World} {m : DiskM} {d d2 : DiskD} {gc gl gi bi n gq : Nat} {C C2 : CacheD} (h : AW w W m d gc gl gi bi n gq C) (q : Ent2) (now a : Int) (hi : insR d (8 / 2) C q now = (a, d2, C2)) (hq : EntOk q) (hn : n + 1 ≤ 1000) (hr : d.room ≤ 1000) :
    Calls Tryz.prog 11 #[.pointer (some ⟨gc, 0, none⟩), .agg (entP q).toArray, .int .i64 now] W fun e W' => e = .returned (.int .i64 a) ∧ ∃ m', AW w W' m' d2 gc gl gi bi (n + 1) gq C2 := by
  refine (c_insert q now W m d gc gl gi bi (8 / 2) n C h.ck hq hn (by omega)).mono ?_
  rw [hi]
  rintro e W' ⟨rfl, m', hk, ht⟩
  exact ⟨rfl, m', h.st.ct hk.lk.dk ht (fun b hb => by
    simp at hb
    rcases hb with rfl | rfl
    · exact h.g.1
    · exact h.g.2), hk, h.g, h.q.ct ht h.f, ht.far h.q.lt h.f⟩
set_option maxRecDepth 100000 in
set_option maxHeartbeats 8000000 in
theorem awake21 (w : World) : Calls Tryz.prog 6 #[] w fun e w' => e = .returned (.bool true) ∧ Below w.heap.size w w' := by
  obtain ⟨d1, d2, d3, d4, d5, d6, L1, C2, C3, C4, C5, C6, v0, v1, v2, v3, v4, v5, v6, v7, b1, b2, b3, b4, b5⟩ := awake21_vals
  have V0 := Lib.hid v0
  have V1 := Lib.hid v1
  have V2 := Lib.hid v2
  have V3 := Lib.hid v3
  have V4 := Lib.hid v4
  have V5 := Lib.hid v5
  have V6 := Lib.hid v6
  have V7 := Lib.hid v7
  have VB := Lib.hid (And.intro b1 (And.intro b2 (And.intro b3 (And.intro b4 b5))))
  have VQ := Lib.hid q_ok
  have hql := entP_length q1 q_ok.1
  have HQI : Hid ((Tryz.prog.info? 35).map (·.size) = some (entP q1).length) := Lib.hid (by rw [hql]; kernel_rfl)
  have HNU : Hid (∀ z t W, isI64 t → Calls Tryz.prog 9 #[.int .i64 z, .int .i64 t] W fun e W' => e = .returned (.agg (entP (numI z t)).toArray) ∧ Below W.heap.size W W') := Lib.hid (fun z t W h => number21 z t W h)
  clear v0 v1 v2 v3 v4 v5 v6 v7 b1 b2 b3 b4 b5
  go_enter Tryz.func6, Tryz.ntmps6
  go_wp2_with fail
  refine (disk_new 8 w (by omega) (by omega)).mono ?_
  rintro e w1 ⟨m1, rfl, hk1, hb1, hf1⟩
  have HS1 : Hid (St w w1 m1 (newD 8)) := Lib.hid ⟨hk1, hf1, hb1⟩
  have hl0 : (newD 8).sec.length = 8 := List.length_replicate
  have HO := Lib.hid (c_open 5 10 w1 m1 (newD 8) hk1 (by show 0 + 10 ≤ 100000; omega) (by omega) ⟨by decide, by decide⟩ ⟨by decide, by decide⟩)
  rw [V0.out, hl0] at HO
  clear hk1 hb1 hf1 hl0
  go_wp2_with fail
  refine HO.out.mono ?_
  rintro e w2 ⟨pc, m2, rfl, hk2, ht2, hcw⟩
  have hvn : valE none = .nilIface := rfl
  rw [hvn]
  unfold CacheW at hcw
  obtain ⟨gc, gl, gi, bi, rfl, hck, g1, g2, g3, g4, _⟩ := hcw
  have HS2 := Lib.hid (HS1.out.next hk2 ht2)
  have HK2 : Hid (CK w2 m2 d1 gc gl gi bi (8 / 2) 0 ⟨L1, [], 15⟩) := Lib.hid hck
  have HG : Hid (w.heap.size ≤ gl ∧ w.heap.size ≤ bi) := Lib.hid (by have := HS1.out.bel.size; exact ⟨by omega, by omega⟩)
  have hrn := eq_nilT21
  clear hk2 ht2 hck g1 g2 g3 g4 HO hvn
  have hsz1 : (Tryz.prog.info? 35).map (·.size) = some (entP q1).toArray.size := by rw [List.size_toArray]; exact HQI.out
  have hsz2 : zE.size = (entP q1).toArray.size := by rw [zE_size, List.size_toArray, hql]
  have hone : (entP q1).toArray.all (·.oneCell') = true := entC_one _ _
  go_wp2_with fail
  refine (HNU.out 1 20 w2 ⟨by decide, by decide⟩).mono ?_
  rintro e w3 ⟨rfl, hb3⟩
  have HS3 := Lib.hid (HS2.out.keep hb3)
  have HK3 := Lib.hid (HK2.out.keep hb3)
  clear hb3
  rw [show numI 1 20 = q1 from rfl]
  obtain ⟨E, hE⟩ : ∃ E, E = (entP q1).toArray := ⟨_, rfl⟩
  rw [← hE] at hsz1 hsz2 hone ⊢
  have HE := Lib.hid hE
  clear hE hql
  go_upto_region 7 with (first
    | (refine al 35 _ rfl rfl zeroE ?_)
    | (refine stNew (cells := E) 35 (.tmp 5) (.tmp 18) rfl rfl (by rfl) (by rfl) hsz1 hsz2 hone ?_; intro w4 hB4 hb4 hs4))
  obtain ⟨gq, hgq⟩ : ∃ g, g = w3.heap.size := ⟨_, rfl⟩
  rw [← hgq] at hB4 ⊢
  have HA4 : Hid (AW w w4 m2 d1 gc gl gi bi 0 gq ⟨L1, [], 15⟩) := Lib.hid ⟨HS3.out.keep hb4, HK3.out.keep hb4, HG.out, by rw [← HE.out]; exact hB4, Apart.fresh HS3.out.dk (by omega), fun hm => by
    have h1 := HK3.out.lk.blk.lt
    have h2 := HK3.out.ix.lt.2
    simp at hm
    omega⟩
  clear hB4 hb4 hs4 hsz1 hsz2 hone HE hgq HS1 HS2 HK2 HS3 HK3
  have HQC := Lib.hid (c_quarantine HA4.out.ck)
  have h15 : (CacheD.mk L1 [] 15).til = 15 := rfl
  rw [h15] at HQC
  clear h15
  go_wp2_with fail
  refine HQC.out.mono ?_
  rintro e wq ⟨rfl, hwq⟩
  rw [hwq]
  clear hwq wq HQC
  have hr4 := HA4.out.q.range
  rw [List.toList_toArray] at hr4
  have HI := Lib.hid (HA4.out.ins q1 10 10 V1.out VQ.out.1 (by omega) VB.out.1)
  go_wp2_with (refine ld 35 _ rfl rfl rfl hr4 Tryz.underlying35 rfl HQI.out ?_)
  refine HI.out.mono ?_
  rintro e w5 ⟨rfl, m5, ha⟩
  have HA5 := Lib.hid ha
  clear ha HI HA4 hr4
  have hr5 := HA5.out.q.range
  rw [List.toList_toArray] at hr5
  have HI := Lib.hid (HA5.out.ins q1 20 8 V2.out VQ.out.1 (by omega) VB.out.2.1)
  go_wp2_with (refine ld 35 _ rfl rfl rfl hr5 Tryz.underlying35 rfl HQI.out ?_)
  refine HI.out.mono ?_
  rintro e w6 ⟨rfl, m6, ha⟩
  have HA6 := Lib.hid ha
  clear ha HI HA5 hr5
  go_wp2_with fail
  refine (HNU.out 2 20 w6 ⟨by decide, by decide⟩).mono ?_
  rintro e w6a ⟨rfl, hb⟩
  have HA6a := Lib.hid (HA6.out.keep hb)
  clear hb
  rw [show numI 2 20 = q2 from rfl]
  have HI := Lib.hid (HA6a.out.ins q2 10 10 V3.out VQ.out.2.1 (by omega) VB.out.2.1)
  go_wp2_with fail
  refine HI.out.mono ?_
  rintro e w7 ⟨rfl, m7, ha⟩
  have HA7 := Lib.hid ha
  clear ha HI HA6 HA6a
  go_wp2_with fail
  refine (HNU.out 3 20 w7 ⟨by decide, by decide⟩).mono ?_
  rintro e w7a ⟨rfl, hb⟩
  have HA7a := Lib.hid (HA7.out.keep hb)
  clear hb
  rw [show numI 3 20 = q3 from rfl]
  have HI := Lib.hid (HA7a.out.ins q3 10 10 V4.out VQ.out.2.2.1 (by omega) VB.out.2.2.1)
  go_wp2_with fail
  refine HI.out.mono ?_
  rintro e w8 ⟨rfl, m8, ha⟩
  have HA8 := Lib.hid ha
  clear ha HI HA7 HA7a
  go_wp2_with fail
  refine (HNU.out 4 20 w8 ⟨by decide, by decide⟩).mono ?_
  rintro e w8a ⟨rfl, hb⟩
  have HA8a := Lib.hid (HA8.out.keep hb)
  clear hb
  rw [show numI 4 20 = q4 from rfl]
  have HI := Lib.hid (HA8a.out.ins q4 10 9 V5.out VQ.out.2.2.2.1 (by omega) VB.out.2.2.2.1)
  go_wp2_with fail
  refine HI.out.mono ?_
  rintro e w9 ⟨rfl, m9, ha⟩
  have HA9 := Lib.hid ha
  clear ha HI HA8 HA8a
  go_wp2_with fail
  refine (HNU.out 4 30 w9 ⟨by decide, by decide⟩).mono ?_
  rintro e w9a ⟨rfl, hb⟩
  have HA9a := Lib.hid (HA9.out.keep hb)
  clear hb
  rw [show numI 4 30 = q5 from rfl]
  have HI := Lib.hid (HA9a.out.ins q5 21 10 V6.out VQ.out.2.2.2.2 (by omega) VB.out.2.2.2.2)
  go_wp2_with fail
  refine HI.out.mono ?_
  rintro e w10 ⟨rfl, m10, ha⟩
  have HA10 := Lib.hid ha
  clear ha HI HA9 HA9a
  have HU := Lib.hid (c_used HA10.out.ck)
  rw [V7.out] at HU
  go_wp2_with fail
  refine HU.out.mono ?_
  rintro e wq ⟨rfl, hwq⟩
  rw [hwq]
  clear hwq wq HU
  have hr10 := HA10.out.q.range
  rw [List.toList_toArray] at hr10
  go_wp2_with (refine ld 35 _ rfl rfl rfl hr10 Tryz.underlying35 rfl HQI.out ?_)
  refine (c_insert_nil q1 1 w10 VQ.out.1).mono ?_
  rintro e w20 ⟨rfl, hb⟩
  have HB := Lib.hid (bstep HA10.out.st.bel hb)
  clear hb
  go_wp2_with fail
  refine (c_broken_nil w20).mono ?_
  rintro e wq ⟨rfl, hwq⟩
  rw [hwq]
  clear hwq wq
  go_wp2_with fail
  go_ret
  exact ⟨rfl, HB.out⟩
end Go.Proofs.YtombncedfleljaaGreat
namespace Go.Proofs.YtombncedfleljaaGreat
open Go.RowKit
attribute [local irreducible] wpQuiet wpAnyH
set_option linter.unusedSimpArgs false
set_option linter.unusedVariables false

theorem calls_ex {P : Program} {f : FuncId} {args : Array Value} {w : World} {R : Ending → World → Prop} (h : Calls P f args w R) : ∃ e w', R e w' := by
  obtain ⟨e, w', _, h1, _⟩ := h []
  exact ⟨e, w', h1⟩
/-- A slice of entries beside the disk and the blocks F. -/
structure VF (w : World) (m : DiskM) (F : List Nat) (v : Value) (es : EL) : Prop where
  sn : Sn w 33 v es.length (es.flatMap entP)
  nf : ∀ b, v.ownBlock = some b → Far m F b ∧ b < w.heap.size
section
variable {w w' : World} {m m' : DiskM} {d d' : DiskD} {F F' : List Nat} {v : Value} {es : EL}
theorem VF.keep (h : VF w m F v es) (hb : Below w.heap.size w w') : VF w' m F v es := ⟨h.sn.below hb, fun b e => ⟨(h.nf b e).1, Nat.lt_of_lt_of_le (h.nf b e).2 hb.size⟩⟩
theorem VF.ct (h : VF w m F v es) (ht : CT F w m w' m') : VF w' m' F v es :=
  ⟨ht.fo.sn h.sn (fun b e hm => (List.mem_append.1 hm).elim (h.nf b e).1.2 (h.nf b e).1.1.1), fun b e => ⟨ht.far (h.nf b e).2 (h.nf b e).1, Nat.lt_of_lt_of_le (h.nf b e).2 ht.fo.size⟩⟩
theorem VF.re (h : VF w m F v es) (hF : ∀ b ∈ F', w.heap.size ≤ b) : VF w m F' v es :=
  ⟨h.sn, fun b e => ⟨⟨(h.nf b e).1.1, fun hm => by have := hF b hm; have := (h.nf b e).2; omega⟩, (h.nf b e).2⟩⟩
theorem VF.new (hk : DK w m d) (hF : ∀ b ∈ F, b < w.heap.size) (hs : Sn w' 33 v es.length (es.flatMap entP)) (ho : ∀ b, v.ownBlock = some b → w.heap.size ≤ b ∧ b < w'.heap.size) : VF w' m F v es :=
  ⟨hs, fun b e => ⟨⟨Apart.fresh hk (ho b e).1, fun hm => by have := hF b hm; have := (ho b e).1; omega⟩, (ho b e).2⟩⟩
theorem VF.nil : VF w m F (.slice none 0 0) [] := ⟨⟨none, 0, rfl, Nat.le_refl _, rfl, fun h => absurd h (by simp)⟩, fun b e => by cases e⟩
end
def withS (S : EL) : Option Ent2 → EL
  | none => S
  | some q => (refPut S q).1
def brkO : Option CacheD → Bool
  | none => true
  | some C => C.L.brk
/-- The cache of the law: none; or one. -/
def KC (w0 w : World) (m : DiskM) (d : DiskD) (k N : Nat) (now : Int) (cv : Value) (F : List Nat) (S : EL) (M : Option Ent2) (co : Option CacheD) : Prop :=
  (cv = .pointer none ∧ F = [] ∧ co = none ∧ SB (PC S (withS S M) now) N k d) ∨
  (∃ gc gl gi bi n C, cv = .pointer (some ⟨gc, 0, none⟩) ∧ F = [gl, bi] ∧ co = some C ∧ CK w m d gc gl gi bi (N / 2) n C ∧ n ≤ 20 + k ∧ w0.heap.size ≤ gl ∧ w0.heap.size ≤ bi ∧
    ((C.L.brk = true ∧ SB (PC S (withS S M) now) N k d) ∨ (M = none ∧ CL S now N k d C)))
structure KB (w0 w : World) (m : DiskM) (d : DiskD) (k N : Nat) (F : List Nat) (vs vm : Value) (S : EL) (M : Option Ent2) : Prop where
  st : St w0 w m d
  rm : d.room ≤ 200 * k
  len : d.sec.length = N
  s : VF w m F vs S
  m : VF w m F vm M.toList
  wl : WL S
  sl : S.length ≤ 20 + k
  mo : ∀ q ∈ M.toList, EntOk q
section
variable {w0 w w' : World} {m m' : DiskM} {d d' : DiskD} {k N : Nat} {now : Int} {cv : Value} {F : List Nat} {vs vm : Value} {S : EL} {M : Option Ent2} {co : Option CacheD}
theorem KC.keep (h : KC w0 w m d k N now cv F S M co) (hb : Below w.heap.size w w') : KC w0 w' m d k N now cv F S M co :=
  h.imp id (fun ⟨gc, gl, gi, bi, n, C, h1, h2, hc, h3, h4⟩ => ⟨gc, gl, gi, bi, n, C, h1, h2, hc, h3.keep hb, h4⟩)
theorem KB.keep (h : KB w0 w m d k N F vs vm S M) (hb : Below w.heap.size w w') : KB w0 w' m d k N F vs vm S M :=
  ⟨h.st.keep hb, h.rm, h.len, h.s.keep hb, h.m.keep hb, h.wl, h.sl, h.mo⟩
theorem KC.more (h : KC w0 w m d k N now cv F S M co) : KC w0 w m d (k + 1) N now cv F S M co := by
  rcases h with ⟨h1, h2, hc, h3⟩ | ⟨gc, gl, gi, bi, n, C, h1, h2, hc, h3, h4, h5, h6, h7⟩
  · exact .inl ⟨h1, h2, hc, h3.imp (fun _ _ h => h) (Nat.le_succ _)⟩
  · exact .inr ⟨gc, gl, gi, bi, n, C, h1, h2, hc, h3, by omega, h5, h6, h7.imp (fun h => ⟨h.1, h.2.imp (fun _ _ h => h) (Nat.le_succ _)⟩) (fun h => ⟨h.1, h.2.more (Nat.le_succ _)⟩)⟩
theorem KB.more (h : KB w0 w m d k N F vs vm S M) : KB w0 w m d (k + 1) N F vs vm S M :=
  ⟨h.st, by have := h.rm; omega, h.len, h.s, h.m, h.wl, by have := h.sl; omega, h.mo⟩
theorem KC.late {later : Int} (h : KC w0 w m d k N now cv F S M co) (hl : now ≤ later) : KC w0 w m d k N later cv F S M co := by
  rcases h with ⟨h1, h2, hc, h3⟩ | ⟨gc, gl, gi, bi, n, C, h1, h2, hc, h3, h4, h5, h6, h7⟩
  · exact .inl ⟨h1, h2, hc, h3.imp (PC.late hl) (Nat.le_refl _)⟩
  · exact .inr ⟨gc, gl, gi, bi, n, C, h1, h2, hc, h3, h4, h5, h6, h7.imp (fun h => ⟨h.1, h.2.imp (PC.late hl) (Nat.le_refl _)⟩) (fun h => ⟨h.1, h.2.late hl⟩)⟩
theorem KC.sb (h : KC w0 w m d k N now cv F S M co) : SB (PC S (withS S M) now) N k d := by
  rcases h with ⟨_, _, _, h3⟩ | ⟨gc, gl, gi, bi, n, C, h1, h2, hc, h3, h4, h5, h6, h7⟩
  · exact h3
  · rcases h7 with h | ⟨h, h8⟩
    · exact h.2
    · subst h; exact h8.sb
theorem KC.far (h : KC w0 w m d k N now cv F S M co) : ∀ b ∈ F, w0.heap.size ≤ b ∧ b < w.heap.size := fun b hb => by
  rcases h with ⟨_, h2, _⟩ | ⟨gc, gl, gi, bi, n, C, h1, h2, hc, h3, h4, h5, h6, h7⟩
  · rw [h2] at hb; cases hb
  · rw [h2] at hb
    simp at hb
    rcases hb with rfl | rfl
    · exact ⟨h5, h3.lk.blk.lt⟩
    · exact ⟨h6, h3.ix.lt.2⟩
theorem KC.disk (h : KC w0 w m d k N now cv F S M co) (hk : DK w' m' d') (ht : DT w m w' m') (hl : d'.sec.length = d.sec.length) (h1 : ∀ P, SB P N k d → SB P N k d') (h2 : ∀ P L es, SA P N k d L es → SA P N k d' L es) : KC w0 w' m' d' k N now cv F S M co := by
  rcases h with ⟨a1, a2, ac, a3⟩ | ⟨gc, gl, gi, bi, n, C, a1, a2, ac, a3, a4, a5, a6, a7⟩
  · exact .inl ⟨a1, a2, ac, h1 _ a3⟩
  · exact .inr ⟨gc, gl, gi, bi, n, C, a1, a2, ac, a3.disk hk ht hl, a4, a5, a6, a7.imp (fun h => ⟨h.1, h1 _ h.2⟩) (fun h => ⟨h.1, h.2.disk h2⟩)⟩
theorem KB.ct (h : KB w0 w m d k N F vs vm S M) (hst : St w0 w' m' d') (ht : CT F w m w' m') (hl : d'.sec.length = d.sec.length) (hr : d'.room ≤ d.room + 200) : KB w0 w' m' d' (k + 1) N F vs vm S M :=
  ⟨hst, by have := h.rm; omega, hl.trans h.len, h.s.ct ht, h.m.ct ht, h.wl, by have := h.sl; omega, h.mo⟩
theorem KB.disk (h : KB w0 w m d k N F vs vm S M) (hk : DK w' m' d') (ht : DT w m w' m') (hl : d'.sec.length = d.sec.length) (hr : d'.room ≤ d.room + 200) : KB w0 w' m' d' (k + 1) N F vs vm S M :=
  h.ct (h.st.next hk ht) (CT.of_dt ht) hl hr
theorem kc_broken (h : KC w0 w m d k N now cv F S M co) : Calls Tryz.prog 10 #[cv] w fun e w' => e = .returned (.bool (brkO co)) ∧ w' = w := by
  rcases h with ⟨h1, h2, hc, h3⟩ | ⟨gc, gl, gi, bi, n, C, h1, h2, hc, h3, h4, h5, h6, h7⟩
  · subst h1 hc
    exact c_broken_nil w
  · subst h1 hc
    exact c_broken h3
theorem insR_bd {d : DiskD} (h : d.steps ≤ d.room) (hh : Nat) (C : CacheD) (q : Ent2) (now : Int) (h2 : (cmpR d hh C now).2.1.steps ≤ (cmpR d hh C now).2.1.room) : (insR d hh C q now).2.1.room ≤ d.room + 2 * C.E.length + 7 ∧ (insR d hh C q now).2.1.sec.length = d.sec.length := by
  have ht : ∀ (d : DiskD) (C : CacheD), d.steps ≤ d.room → (insT d hh C q).2.1.room ≤ d.room + 3 ∧ (insT d hh C q).2.1.sec.length = d.sec.length := fun d C h => by
    have h1 := appD_bd h hh C.L q
    have h2 := appD_len d hh C.L q
    unfold insT
    split
    · exact ⟨by show d.room ≤ _; omega, rfl⟩
    · split
      · exact ⟨h1, h2⟩
      · exact ⟨h1, h2⟩
  have hc := cmpR_bd h hh C now
  unfold insR
  split
  · exact ⟨by show d.room ≤ _; omega, rfl⟩
  split
  · exact ⟨by show d.room ≤ _; omega, rfl⟩
  split
  · exact ⟨by show d.room ≤ _; omega, rfl⟩
  split
  · exact ⟨by show d.room ≤ _; omega, rfl⟩
  split
  · split
    · exact ⟨by show (cmpR d hh C now).2.1.room ≤ _; omega, hc.2⟩
    · have h3 := ht _ (cmpR d hh C now).2.2 h2
      exact ⟨by omega, h3.2.trans hc.2⟩
  · have h3 := ht d C h
    exact ⟨by omega, h3.2⟩
theorem cmp_dok {gc gl gi bi h n : Nat} {C : CacheD} (kk : CK w m d gc gl gi bi h n C) (hn : n ≤ 1000) (hr : d.room + 30000 ≤ 100000) (now : Int) : DOk (cmpR d h C now).2.1 := by
  obtain ⟨e, w', _, m', h1, _⟩ := calls_ex (c_compact now w m d gc gl gi bi h n C kk hn hr)
  exact h1.lk.dk.ok
theorem c_compact_nil (now : Int) (w : World) : Calls Tryz.prog 13 #[.pointer none, .int .i64 now] w fun e w' => e = .returned (valE (some (12, none))) ∧ w' = w := by
  go_enter Tryz.func13, Tryz.ntmps13
  go_wp2_with fail
  go_ret
  exact ⟨rfl, rfl⟩
/-- What an insert leaves. -/
theorem kc_insert (q : Ent2) (h : KC w0 w m d k N now cv F S M co) (hb : KB w0 w m d k N F vs vm S M) (hq : EntOk q) (hk : k ≤ 40) :
    Calls Tryz.prog 11 #[cv, .agg (entP q).toArray, .int .i64 now] w fun e w' => ∃ a m' d' co', e = .returned (.int .i64 a) ∧ m'.g = m.g ∧ CT F w m w' m' ∧ KB w0 w' m' d' (k + 1) N F vs vm S M ∧
      ((a = 10 ∧ M = none ∧ KC w0 w' m' d' (k + 1) N now cv F (refPut S q).1 none co') ∨
       (a ≠ 10 ∧ brkO co = false ∧ brkO co' = true ∧ M = none ∧ KC w0 w' m' d' (k + 1) N now cv F S (some q) co') ∨
       (a ≠ 10 ∧ (brkO co = true ∨ brkO co' = false) ∧ KC w0 w' m' d' (k + 1) N now cv F S M co')) := by
  have hrm := hb.rm
  rcases h with ⟨h1, h2, hc, h3⟩ | ⟨gc, gl, gi, bi, n, C, h1, h2, hc, h3, h4, h5, h6, h7⟩
  · subst h1 h2 hc
    refine (c_insert_nil q now w hq).mono ?_
    rintro e w' ⟨rfl, hbl⟩
    exact ⟨9, m, d, none, rfl, rfl, CT.of_below hbl, (hb.keep hbl).more, .inr (.inr ⟨by decide, .inl rfl, .inl ⟨rfl, rfl, rfl, h3.imp (fun _ _ h => h) (Nat.le_succ _)⟩⟩)⟩
  · subst h1 h2 hc
    have hE := h3.ix.len
    have hdk := cmp_dok h3 (by omega) (by omega) now
    have hbd := insR_bd hb.st.dk.ok.st (N / 2) C q now hdk.st
    refine (c_insert q now w m d gc gl gi bi (N / 2) n C h3 hq (by omega) (by omega)).mono ?_
    rintro e w' ⟨rfl, m', hk', ht'⟩
    have hst := hb.st.ct hk'.lk.dk ht' (fun b hb2 => by
      simp at hb2
      rcases hb2 with rfl | rfl
      · exact h5
      · exact h6)
    refine ⟨_, m', _, some (insR d (N / 2) C q now).2.2, rfl, ht'.g, ht', hb.ct hst ht' hbd.2 (by omega), ?_⟩
    rcases h7 with ⟨hb1, hsb⟩ | ⟨hM, hcl⟩
    · obtain ⟨e1, e2⟩ := ins_brk (d := d) (h := N / 2) (q := q) (now := now) hb1
      refine .inr (.inr ⟨by rw [e1]; split <;> decide, .inl hb1, .inr ⟨gc, gl, gi, bi, n + 1, _, rfl, rfl, rfl, hk', by omega, h5, h6, .inl ⟨by rw [e2]; exact hb1, by rw [e2]; exact hsb.imp (fun _ _ h => h) (Nat.le_succ _)⟩⟩⟩)
    · subst hM
      rcases ins_plain (q := q) hcl hb.wl hb.st.dk.ok (by omega) hq hdk with ⟨a1, a2⟩ | ⟨a1, a2, a3⟩ | ⟨a1, a2⟩
      · exact .inl ⟨a1, rfl, .inr ⟨gc, gl, gi, bi, n + 1, _, rfl, rfl, rfl, hk', by omega, h5, h6, .inr ⟨rfl, a2⟩⟩⟩
      · exact .inr (.inl ⟨a1, hcl.brk, a2, rfl, .inr ⟨gc, gl, gi, bi, n + 1, _, rfl, rfl, rfl, hk', by omega, h5, h6, .inl ⟨a2, a3⟩⟩⟩)
      · exact .inr (.inr ⟨a1, .inr a2.brk, .inr ⟨gc, gl, gi, bi, n + 1, _, rfl, rfl, rfl, hk', by omega, h5, h6, .inr ⟨rfl, a2⟩⟩⟩)
theorem kc_compact (h : KC w0 w m d k N now cv F S M co) (hb : KB w0 w m d k N F vs vm S M) (hk : k ≤ 40) :
    Calls Tryz.prog 13 #[cv, .int .i64 now] w fun e w' => ∃ a m' d' co', e = .returned a ∧ m'.g = m.g ∧ CT F w m w' m' ∧ KB w0 w' m' d' (k + 1) N F vs vm S M ∧ KC w0 w' m' d' (k + 1) N now cv F S M co' := by
  have hrm := hb.rm
  rcases h with ⟨h1, h2, hc, h3⟩ | ⟨gc, gl, gi, bi, n, C, h1, h2, hc, h3, h4, h5, h6, h7⟩
  · subst h1 h2 hc
    refine (c_compact_nil now w).mono ?_
    rintro e w' ⟨rfl, hw⟩
    subst hw
    exact ⟨_, m, d, none, rfl, rfl, CT.of_below (Below.refl _ _), hb.more, .inl ⟨rfl, rfl, rfl, h3.imp (fun _ _ h => h) (Nat.le_succ _)⟩⟩
  · subst h1 h2 hc
    have hE := h3.ix.len
    have hbd := cmpR_bd hb.st.dk.ok.st (N / 2) C now
    refine (c_compact now w m d gc gl gi bi (N / 2) n C h3 (by omega) (by omega)).mono ?_
    rintro e w' ⟨rfl, m', hk', ht'⟩
    have hst := hb.st.ct hk'.lk.dk ht' (fun b hb2 => by
      simp at hb2
      rcases hb2 with rfl | rfl
      · exact h5
      · exact h6)
    refine ⟨_, m', _, some (cmpR d (N / 2) C now).2.2, rfl, ht'.g, ht', hb.ct hst ht' hbd.2 (by omega), ?_⟩
    rcases h7 with ⟨hb1, hsb⟩ | ⟨hM, hcl⟩
    · have e2 := cmp_brk (d := d) (h := N / 2) (now := now) hb1
      exact .inr ⟨gc, gl, gi, bi, n, _, rfl, rfl, rfl, hk', by omega, h5, h6, .inl ⟨by rw [e2]; exact hb1, by rw [e2]; exact hsb.imp (fun _ _ h => h) (Nat.le_succ _)⟩⟩
    · subst hM
      rcases cmp_plain (now := now) hcl hb.st.dk.ok (by omega) with ⟨_, a2, _⟩ | ⟨_, _, a2, a3⟩ | ⟨_, _, a2⟩
      · exact .inr ⟨gc, gl, gi, bi, n, _, rfl, rfl, rfl, hk', by omega, h5, h6, .inr ⟨rfl, a2⟩⟩
      · exact .inr ⟨gc, gl, gi, bi, n, _, rfl, rfl, rfl, hk', by omega, h5, h6, .inl ⟨a2, a3⟩⟩
      · exact .inr ⟨gc, gl, gi, bi, n, _, rfl, rfl, rfl, hk', by omega, h5, h6, .inr ⟨rfl, a2⟩⟩
theorem kc_open (h : KC w0 w m d k N now cv F S M co) (hb : KB w0 w m d k N F vs vm S M) (hk : k ≤ 40) (hN : 2 ≤ N ∧ N ≤ 20) (hn : isI64 now) :
    Calls Tryz.prog 18 #[.pointer (some ⟨m.g, 0, none⟩), .int .i64 7, .int .i64 now] w fun e w' => ∃ x pc m' d', e = .returned (.tuple #[pc, valE x]) ∧ m'.g = m.g ∧
      (x ≠ none → KB w0 w' m' d' (k + 1) N [] vs vm S M ∧ KC w0 w' m' d' (k + 1) N now pc [] S M none) ∧
      (x = none → ∃ F' C es, PC S (withS S M) now 0 es ∧ (∀ q ∈ es, EntOk q) ∧ es.length ≤ 20 ∧ C.E = liveL (refOf es) now ∧ KB w0 w' m' d' (k + 1) N F' vs vm S M ∧ KC w0 w' m' d' (k + 1) N now pc F' (liveL (refOf es) now) none (some C)) := by
  have hrm := hb.rm
  have hlen := hb.len
  refine (c_open 7 now w m d hb.st.dk (by omega) (by omega) ⟨by decide, by decide⟩ hn).mono ?_
  rintro e w' ⟨pc, m', rfl, hk', ht', hcw⟩
  have hbd := openR_bd hb.st.dk.ok.st
  have hln := openR_len d
  have hbF := hb.st.next hk' ht'
  refine ⟨_, pc, m', (openR d).2.1, rfl, ht'.g, fun hx => ?_, fun hx => ?_⟩
  · rcases open_plain h.sb hb.st.dk.ok hN.1 (by omega) (addS now 7) with ⟨y, a1, a2, a3⟩ | ⟨L, es, a1, _⟩
    · unfold CacheW at hcw
      rw [a2] at hcw
      exact ⟨⟨hbF, by omega, hln.trans hlen, (hb.s.re (fun b hb => by cases hb)).ct (CT.of_dt ht'), (hb.m.re (fun b hb => by cases hb)).ct (CT.of_dt ht'), hb.wl, by have := hb.sl; omega, hb.mo⟩, .inl ⟨hcw, rfl, rfl, a3⟩⟩
    · exact absurd a1 hx
  · rcases open_plain h.sb hb.st.dk.ok hN.1 (by omega) (addS now 7) with ⟨y, a1, _⟩ | ⟨L, es, a1, a2, a3, a4, a5⟩
    · rw [a1] at hx; cases hx
    · unfold CacheW at hcw
      rw [a2, hlen] at hcw
      obtain ⟨gc, gl, gi, bi, rfl, hck, g1, g2, g3, g4, hok⟩ := hcw
      have hF : ∀ b ∈ [gl, bi], w.heap.size ≤ b := fun b hb2 => by
        simp at hb2
        rcases hb2 with rfl | rfl
        · exact g2
        · exact g4
      have hsz := hb.st.bel.size
      exact ⟨[gl, bi], _, es, a3, hok, by omega, rfl, ⟨hbF, by omega, hln.trans hlen, (hb.s.re hF).ct (CT.of_dt ht'), (hb.m.re hF).ct (CT.of_dt ht'), hb.wl, by have := hb.sl; omega, hb.mo⟩, .inr ⟨gc, gl, gi, bi, es.length, _, rfl, rfl, rfl, hck, by omega, by omega, by omega, .inr ⟨rfl, a4⟩⟩⟩
theorem kc_live {C : CacheD} (h : KC w0 w m d k N now cv F S M (some C)) (hk : k ≤ 100) :
    Calls Tryz.prog 19 #[cv, .int .i64 now] w fun e w' => ∃ v, e = .returned v ∧ Sn w' 33 v (liveL C.E now).length ((liveL C.E now).flatMap entP) ∧ Below w.heap.size w w' ∧ ∀ b, v.ownBlock = some b → w.heap.size ≤ b ∧ b < w'.heap.size := by
  rcases h with ⟨h1, h2, hc, h3⟩ | ⟨gc, gl, gi, bi, n, C', h1, h2, hc, h3, h4, h5, h6, h7⟩
  · cases hc
  · injection hc with hc
    subst h1 hc
    exact c_live now h3 (by omega)
end
end Go.Proofs.YtombncedfleljaaGreat
