/- Parts: rcache: Compact, Insert. -/
import Derived.Test.YtombncedfleljaaGreatMK26
import Derived.Test.YtombncedfleljaaGreatMK8
import Derived.Test.YtombncedfleljaaGreatMK3
import Derived.Test.YtombncedfleljaaGreatMK28
namespace Go.Proofs.YtombncedfleljaaGreat
open Go.RowKit
attribute [local irreducible] wpQuiet wpAnyH
set_option linter.unusedSimpArgs false
set_option linter.unusedVariables false

def cmpR (d : DiskD) (h : Nat) (C : CacheD) (now : Int) : Ans × DiskD × CacheD := match (rewR d h C.L (liveL C.E now)).1 with
  | none => (none, (rewR d h C.L (liveL C.E now)).2.1, ⟨(rewR d h C.L (liveL C.E now)).2.2, liveL C.E now, C.til⟩)
  | some x => (some x, (rewR d h C.L (liveL C.E now)).2.1, ⟨(rewR d h C.L (liveL C.E now)).2.2, C.E, C.til⟩)
/-- The end of an insert: there is room, or none. -/
def insT (d : DiskD) (h : Nat) (C : CacheD) (q : Ent2) : Int × DiskD × CacheD := if h - 1 ≤ C.L.cnt then (9, d, C) else match appA d h C.L q with
  | none => (10, appD d h C.L q, ⟨appL d h C.L q, (refPut C.E q).1, C.til⟩)
  | some x => (ansC (some x), appD d h C.L q, ⟨appL d h C.L q, C.E, C.til⟩)
def insR (d : DiskD) (h : Nat) (C : CacheD) (q : Ent2) (now : Int) : Int × DiskD × CacheD :=
  if hasE C.E q.1 now then (8, d, C) else if C.L.brk then (9, d, C) else if q.2 < 0 then (9, d, C) else if 4611686018427387904 < q.2 then (9, d, C) else
  if h - 1 ≤ C.L.cnt then (match (cmpR d h C now).1 with
    | some x => (ansC (some x), (cmpR d h C now).2.1, (cmpR d h C now).2.2)
    | none => insT (cmpR d h C now).2.1 h (cmpR d h C now).2.2 q) else insT d h C q

theorem cmp_code (d : DiskD) (h : Nat) (C : CacheD) (now : Int) : isI64 (codeA (cmpR d h C now).1) := by
  have h1 := rewR_code d h C.L (liveL C.E now)
  unfold cmpR
  split
  · exact codeN
  · rename_i x hx
    rw [hx] at h1
    exact h1
theorem CK.up {w : World} {m : DiskM} {d : DiskD} {gc gl gi bi h n n' : Nat} {C : CacheD} (k : CK w m d gc gl gi bi h n C) (hn : n ≤ n') : CK w m d gc gl gi bi h n' C := ⟨k.lk, k.blk, k.ix.mono hn, k.ac, k.ai, k.ab, k.ne, k.i64⟩
set_option maxRecDepth 100000 in
set_option maxHeartbeats 4000000 in
theorem c_compact (now : Int) (w : World) (m : DiskM) (d : DiskD) (gc gl gi bi h n : Nat) (C : CacheD) (k : CK w m d gc gl gi bi h n C) (hn : n ≤ 1000) (hr : d.room + 30000 ≤ 100000) :
    Calls Tryz.prog 13 #[.pointer (some ⟨gc, 0, none⟩), .int .i64 now] w fun e w' => e = .returned (valE (cmpR d h C now).1) ∧ ∃ m', CK w' m' (cmpR d h C now).2.1 gc gl gi bi h n (cmpR d h C now).2.2 ∧ CT [gl, bi] w m w' m' := by
  have HK := Lib.hid k
  have hE := k.ix.len
  have hll := liveL_len C.E now
  have hok : ∀ q ∈ liveL C.E now, EntOk q := (k.ix.wl.live now).ok
  obtain ⟨til, htil⟩ : ∃ t, t = C.til := ⟨_, rfl⟩
  obtain ⟨ra, hra⟩ : ∃ x, x = (rewR d h C.L (liveL C.E now)).1 := ⟨_, rfl⟩
  obtain ⟨rd, hrd⟩ : ∃ x, x = (rewR d h C.L (liveL C.E now)).2.1 := ⟨_, rfl⟩
  obtain ⟨rl, hrl⟩ : ∃ x, x = (rewR d h C.L (liveL C.E now)).2.2 := ⟨_, rfl⟩
  have HV : Hid (cmpR d h C now = match (generalizing := false) ra with
    | none => (none, rd, ⟨rl, liveL C.E now, C.til⟩)
    | some x => (some x, rd, ⟨rl, C.E, C.til⟩)) := Lib.hid (by subst hra hrd hrl; rfl)
  have HRW : Hid (∀ W M A cap, LK W M d gl h C.L → Sn W 33 (.slice A (liveL C.E now).length cap) (liveL C.E now).length ((liveL C.E now).flatMap entP) → Calls Tryz.prog 36 #[.pointer (some ⟨gl, 0, none⟩), .slice A (liveL C.E now).length cap] W fun e w' => e = .returned (valE ra) ∧ ∃ m', LK w' m' rd gl h rl ∧ LT gl W M w' m') := Lib.hid (by rw [hra, hrd, hrl]; exact fun W M A cap hk hs => log_rewrite _ A cap W M d gl h C.L hk hs hok (by omega) (by omega))
  have HLV := Lib.hid (fun W (kk : XK W gi bi n C.E) => xk_live W gi bi n C.E now kk hn)
  clear hra hrd hrl k hok hE hll
  have HTL := Lib.hid htil.symm
  go_enter Tryz.func13, Tryz.ntmps13
  go_upto_region 3 with fail
  clear htil
  rw [show C.til = til from HTL.out] at HV
  have HKB : Hid (CK w m d gc gl gi bi h n ⟨C.L, C.E, til⟩) := Lib.hid (by rw [← HTL.out]; exact HK.out)
  replace HK := HKB
  clear HKB
  obtain ⟨wS, hwS⟩ : ∃ wS, wS = w.drew := ⟨_, rfl⟩
  have HD : Hid (Below w.heap.size w wS) := Lib.hid (by rw [hwS]; exact (Below.refl _ _).drew)
  have HKS := Lib.hid (HK.out.keep HD.out)
  refine kZ (n := 12) (fun W => Blk W gc 84 (cacheC gl gi til)) (by rw [← hwS]; exact HKS.out.blk) (h := fun hH => ?_)
  rw [← hwS] at hH ⊢
  clear hwS
  refine kM 0 (some 9) (.pointer (some ⟨gc, 0, none⟩)) (h := ?_)
  simp only [p1, p2, p3, p4, p5]
  refine kT 1 (some 10) (.pointer (some ⟨gc, 0, none⟩)) (h := ?_)
  simp only [p1, p2, p3, p4, p5]
  refine kT 2 (some 11) (.pointer (some ⟨gc, 0, none⟩)) (h := ?_)
  simp only [p1, p2, p3, p4, p5]
  refine kC 3 (some 12) (v := .pointer (some ⟨gl, 0, none⟩)) (fun _ hX => (cache_cells hX).1) (h := ?_)
  simp only [p1, p2, p3, p4, p5]
  refine kM 4 (some 13) (.pointer (some ⟨gc, 0, none⟩)) (h := ?_)
  simp only [p1, p2, p3, p4, p5]
  refine kT 5 (some 14) (.pointer (some ⟨gc, 0, none⟩)) (h := ?_)
  simp only [p1, p2, p3, p4, p5]
  refine kT 6 (some 15) (.pointer (some ⟨gc, 1, none⟩)) (h := ?_)
  simp only [p1, p2, p3, p4, p5]
  refine kC 7 (some 16) (v := .pointer (some ⟨gi, 0, none⟩)) (fun _ hX => (cache_cells hX).2.1) (h := ?_)
  simp only [p1, p2, p3, p4, p5]
  refine kM 8 (some 17) (.int .i64 now) (h := ?_)
  simp only [p1, p2, p3, p4, p5]
  refine kF 9 (some 18) ((HLV.out wS HKS.out.ix).mono ?_)
  rintro e w5 ⟨v5, rfl, hs5, hb5, _⟩
  obtain ⟨A5, c5, rfl, _⟩ := id hs5
  have HK5 := Lib.hid (HKS.out.keep hb5)
  have HS5 := Lib.hid hs5
  have HB5 := Lib.hid (bstep HD.out hb5)
  clear hs5
  refine ⟨_, rfl, HKS.out.blk.keep hb5, fun hH => ?_⟩
  simp only [p1, p2, p3, p4, p5]
  refine kF 10 (some 19) ((HRW.out w5 m A5 c5 HK5.out.lk HS5.out).mono ?_)
  rintro e w6 ⟨rfl, m6, hlk6, ht6⟩
  have HK6 := Lib.hid (HK5.out.log hlk6 ht6)
  have HT6 : Hid (CT [gl, bi] w m w6 m6) := Lib.hid ((CT.of_below HB5.out).trans (CT.of_lt ht6 (.inl (by simp))))
  clear hlk6 ht6
  refine ⟨_, rfl, HK6.out.blk, fun hH => ?_⟩
  simp only [p1, p2, p3, p4, p5]
  refine kT 11 (some 5) (valE ra) (h := ?_)
  simp only [p1, p2, p3, p4, p5]
  refine kE (h := ?_)
  cases ra with
  | some x =>
    obtain ⟨t, u, hv⟩ := valE_form x
    have HVE := Lib.hid hv
    rw [hv]
    have hne := neq_nil t u
    clear hv
    go_wp2_with fail
    go_ret
    rw [HV.out]
    exact ⟨by rw [← HVE.out]; rfl, m6, HK6.out, HT6.out⟩
  | none =>
    have hvn : valE none = .nilIface := rfl
    rw [hvn]
    obtain ⟨_, c1, _⟩ := cache_cells HK6.out.blk
    have HDR := Lib.hid (xk_drop w6 gi bi n C.E now HK6.out.ix hn)
    clear hvn
    go_wp2_with fail
    refine HDR.out.mono ?_
    rintro e w7 ⟨kd, rfl, hx7, ho7⟩
    have HK7 := Lib.hid (HK6.out.index ho7 hx7)
    have HT7 := Lib.hid (HT6.out.trans (CT.of_off (F := [gl, bi]) ho7 (by simp)))
    clear hx7 ho7
    go_wp2_with fail
    go_ret
    rw [HV.out]
    exact ⟨rfl, m6, HK7.out, HT7.out⟩
theorem cmpR_bd {d : DiskD} (h : d.steps ≤ d.room) (hh : Nat) (C : CacheD) (now : Int) : (cmpR d hh C now).2.1.room ≤ d.room + 2 * C.E.length + 4 ∧ (cmpR d hh C now).2.1.sec.length = d.sec.length := by
  have h1 := rewR_bd h hh C.L (liveL C.E now)
  have h2 := rewR_len d hh C.L (liveL C.E now)
  have h3 := liveL_len C.E now
  unfold cmpR
  split
  · exact ⟨by show (rewR d hh C.L (liveL C.E now)).2.1.room ≤ _; omega, h2⟩
  · exact ⟨by show (rewR d hh C.L (liveL C.E now)).2.1.room ≤ _; omega, h2⟩
set_option maxRecDepth 100000 in
set_option maxHeartbeats 8000000 in
theorem c_insert (q : Ent2) (now : Int) (w : World) (m : DiskM) (d : DiskD) (gc gl gi bi h n : Nat) (C : CacheD) (k : CK w m d gc gl gi bi h n C) (hq : EntOk q) (hn : n + 1 ≤ 1000) (hr : d.room + 40000 ≤ 100000) :
    Calls Tryz.prog 11 #[.pointer (some ⟨gc, 0, none⟩), .agg (entP q).toArray, .int .i64 now] w fun e w' => e = .returned (.int .i64 (insR d h C q now).1) ∧ ∃ m', CK w' m' (insR d h C q now).2.1 gc gl gi bi h (n + 1) (insR d h C q now).2.2 ∧ CT [gl, bi] w m w' m' := by
  have HQ := Lib.hid hq
  have hql := entP_length q hq
  have HQL := Lib.hid hql
  have HDL : Hid ((u8s q.1).length = 32) := Lib.hid (by simp [u8s, hq.dig.len])
  obtain ⟨w1, hw1⟩ : ∃ w1, w1 = w.alloc (.cells (entP q).toArray 35) := ⟨_, rfl⟩
  obtain ⟨gq, hgq⟩ : ∃ g, g = w.heap.size := ⟨_, rfl⟩
  have HQ1 : Hid (Blk w1 gq 35 (entP q).toArray) := Lib.hid (by rw [hw1, hgq]; exact Blk.new _ _ _)
  have HB1 : Hid (Below w.heap.size w w1) := Lib.hid (by rw [hw1]; exact bel1 _ _)
  obtain ⟨til, htil⟩ : ∃ t, t = C.til := ⟨_, rfl⟩
  have HTL := Lib.hid htil.symm
  have HK0 : Hid (CK w m d gc gl gi bi h n ⟨C.L, C.E, til⟩) := Lib.hid (by rw [htil]; exact k)
  have HK1 := Lib.hid (HK0.out.keep HB1.out)
  have HFG : Hid (Far m [gl, bi] gq) := Lib.hid ⟨Apart.fresh k.lk.dk (by omega), fun hm => by
    have h1 := k.lk.blk.lt
    have h2 := k.ix.lt.2
    simp at hm
    omega⟩
  have HQB : Hid (gq ≠ bi) := Lib.hid (fun e => HFG.out.2 (by simp [e]))
  have HHS := Lib.hid (fun W (kk : XK W gi bi n C.E) => xk_has W gi bi n C.E q.1 now kk hq.dig)
  obtain ⟨hv, hhv⟩ : ∃ b, b = hasE C.E q.1 now := ⟨_, rfl⟩
  rw [← hhv] at HHS
  obtain ⟨xa, hxa⟩ : ∃ x, x = (cmpR d h C now).1 := ⟨_, rfl⟩
  obtain ⟨xd, hxd⟩ : ∃ x, x = (cmpR d h C now).2.1 := ⟨_, rfl⟩
  obtain ⟨xC, hxC⟩ : ∃ x, x = (cmpR d h C now).2.2 := ⟨_, rfl⟩
  have hbd := cmpR_bd k.lk.dk.ok.st h C now
  have hEl := k.ix.len
  have HXR : Hid (xd.room + 3 ≤ 100000) := Lib.hid (by rw [hxd]; omega)
  have HXC : Hid (isI64 (codeA xa)) := Lib.hid (by rw [hxa]; exact cmp_code d h C now)
  have HCP : Hid (∀ W M, CK W M d gc gl gi bi h n ⟨C.L, C.E, til⟩ → Calls Tryz.prog 13 #[.pointer (some ⟨gc, 0, none⟩), .int .i64 now] W fun e w' => e = .returned (valE xa) ∧ ∃ m', CK w' m' xd gc gl gi bi h n xC ∧ CT [gl, bi] W M w' m') := Lib.hid (fun W M kk => by rw [hxa, hxd, hxC]; rw [htil] at kk; exact c_compact now W M d gc gl gi bi h n C kk (by omega) (by omega))
  obtain ⟨pa, hpa⟩ : ∃ x, x = appA d h C.L q := ⟨_, rfl⟩
  obtain ⟨pd, hpd⟩ : ∃ x, x = appD d h C.L q := ⟨_, rfl⟩
  obtain ⟨pl, hpl⟩ : ∃ x, x = appL d h C.L q := ⟨_, rfl⟩
  have HAP : Hid (∀ W M, LK W M d gl h C.L → Calls Tryz.prog 33 #[.pointer (some ⟨gl, 0, none⟩), .agg (entP q).toArray] W fun e w' => e = .returned (valE pa) ∧ ∃ m', LK w' m' pd gl h pl ∧ LT gl W M w' m') := Lib.hid (by rw [hpa, hpd, hpl]; exact fun W M kk => log_append q W M d gl h C.L kk hq (by omega))
  have HAC : Hid (isI64 (codeA pa)) := Lib.hid (by rw [hpa]; exact appA_code d h C.L q)
  have HV : Hid (insR d h C q now = if hv then (8, d, C) else if C.L.brk then (9, d, C) else if q.2 < 0 then (9, d, C) else if 4611686018427387904 < q.2 then (9, d, C) else
    if h - 1 ≤ C.L.cnt then (match (generalizing := false) xa with
    | some x => (ansC (some x), xd, xC)
    | none => insT xd h xC q) else (if h - 1 ≤ C.L.cnt then (9, d, C) else match (generalizing := false) pa with
      | none => (10, pd, ⟨pl, (refPut C.E q).1, til⟩)
      | some x => (ansC (some x), pd, ⟨pl, C.E, til⟩))) := Lib.hid (by subst hxa hxd hxC hhv hpa hpd hpl htil; rfl)
  have HCU : Hid (C = ⟨C.L, C.E, til⟩) := Lib.hid (by rw [htil])
  clear hxa hxd hxC hhv hpa hpd hpl htil hbd hEl k
  go_enter Tryz.func11, Tryz.ntmps11
  go_upto_region 3 with fail
  rw [← hw1, ← hgq]
  clear hw1 hgq
  obtain ⟨wS, hwS⟩ : ∃ wS, wS = w1.drew := ⟨_, rfl⟩
  have HD : Hid (Below w1.heap.size w1 wS) := Lib.hid (by rw [hwS]; exact (Below.refl _ _).drew)
  have HKS := Lib.hid (HK1.out.keep HD.out)
  have HQS := Lib.hid (HQ1.out.keep HD.out)
  refine kZ (n := 8) (fun W => (Blk W gc 84 (cacheC gl gi til) ∧ Blk W gq 35 (entP q).toArray)) (by rw [← hwS]; exact ⟨HKS.out.blk, HQS.out⟩) (h := fun hH => ?_)
  rw [← hwS] at hH ⊢
  clear hwS
  refine kM 0 (some 11) (.pointer (some ⟨gc, 0, none⟩)) (h := ?_)
  simp only [p1, p2, p3, p4, p5]
  refine kT 1 (some 12) (.pointer (some ⟨gc, 0, none⟩)) (h := ?_)
  simp only [p1, p2, p3, p4, p5]
  refine kT 2 (some 13) (.pointer (some ⟨gc, 1, none⟩)) (h := ?_)
  simp only [p1, p2, p3, p4, p5]
  refine kC 3 (some 14) (v := .pointer (some ⟨gi, 0, none⟩)) (fun _ hX => (cache_cells hX.1).2.1) (h := ?_)
  simp only [p1, p2, p3, p4, p5]
  refine kT 4 (some 15) (.pointer (some ⟨gq, 0, none⟩)) (h := ?_)
  simp only [p1, p2, p3, p4, p5]
  refine kL 5 (some 16) (cs := u8s q.1) (fun _ hX => (ent_parts hX.2.range HQ.out).1) (HDL.out) (h := ?_)
  simp only [p1, p2, p3, p4, p5]
  refine kM 6 (some 17) (.int .i64 now) (h := ?_)
  simp only [p1, p2, p3, p4, p5]
  refine kF 7 (some 18) ((HHS.out wS HKS.out.ix).mono ?_)
  rintro e w5 ⟨rfl, hb5⟩
  have HK5 := Lib.hid (HKS.out.keep hb5)
  have HQ5 := Lib.hid (HQS.out.keep hb5)
  have HB5 := Lib.hid (bstep HB1.out (bstep HD.out hb5))
  refine ⟨_, rfl, ⟨HKS.out.blk.keep hb5, HQS.out.keep hb5⟩, fun hH => ?_⟩
  simp only [p1, p2, p3, p4, p5]
  refine kE (h := ?_)
  clear HKS HQS HD
  cases hv with
  | true =>
    go_wp2_with fail
    go_ret
    rw [HV.out]
    exact ⟨rfl, m, by show CK _ m d gc gl gi bi h (n + 1) C; rw [HCU.out]; exact HK5.out.up (Nat.le_succ _), CT.of_below HB5.out⟩
  | false =>
  have HT5 : Hid (CT [gl, bi] w m w5 m) := Lib.hid (CT.of_below HB5.out)
  obtain ⟨hr5, c32⟩ := ent_parts HQ5.out.range HQ.out
  replace c32 : w5.cell? ⟨gq, 32, none⟩ = some (.int .i64 q.2) := c32
  have HBR := Lib.hid (c_broken HK5.out)
  obtain ⟨br, hbr⟩ : ∃ b, b = C.L.brk := ⟨_, rfl⟩
  rw [← hbr] at HV HBR
  clear hbr hr5
  cases br with
  | true =>
    go_wp2_with (refine HBR.out.mono ?_; rintro e wq ⟨rfl, hwq⟩; rw [hwq]; clear hwq wq)
    go_ret
    rw [HV.out]
    exact ⟨rfl, m, by show CK _ m d gc gl gi bi h (n + 1) C; rw [HCU.out]; exact HK5.out.up (Nat.le_succ _), HT5.out⟩
  | false =>
  obtain ⟨t, ht⟩ : ∃ t, t = q.2 := ⟨_, rfl⟩
  rw [← ht] at HV c32
  clear ht
  rcases Bool.eq_false_or_eq_true (decide (t < 0)) with t1 | t1
  · go_wp2_with (refine HBR.out.mono ?_; rintro e wq ⟨rfl, hwq⟩; rw [hwq]; clear hwq wq)
    go_ret
    have h1 := of_decide_eq_true t1
    rw [HV.out, if_neg (by simp), if_neg (by simp), if_pos h1]
    exact ⟨rfl, m, by show CK _ m d gc gl gi bi h (n + 1) C; rw [HCU.out]; exact HK5.out.up (Nat.le_succ _), HT5.out⟩
  rcases Bool.eq_false_or_eq_true (decide (4611686018427387904 < t)) with t2 | t2
  · go_wp2_with (refine HBR.out.mono ?_; rintro e wq ⟨rfl, hwq⟩; rw [hwq]; clear hwq wq)
    go_ret
    have h1 := of_decide_eq_false t1
    have h2 := of_decide_eq_true t2
    rw [HV.out, if_neg (by simp), if_neg (by simp), if_neg h1, if_pos h2]
    exact ⟨rfl, m, by show CK _ m d gc gl gi bi h (n + 1) C; rw [HCU.out]; exact HK5.out.up (Nat.le_succ _), HT5.out⟩
  have HV2 := HV.out
  rw [if_neg (by simp), if_neg (by simp), if_neg (of_decide_eq_false t1), if_neg (of_decide_eq_false t2)] at HV2
  replace HV := Lib.hid HV2
  clear HV2
  have HU5 := Lib.hid (c_used HK5.out)
  have HR5 := Lib.hid (c_room HK5.out)
  obtain ⟨rm, hrm⟩ : ∃ r : Nat, r = h - 1 := ⟨_, rfl⟩
  obtain ⟨cn, hcn⟩ : ∃ c : Nat, c = C.L.cnt := ⟨_, rfl⟩
  rw [← hrm] at HR5 HV
  rw [← hcn] at HU5 HV
  have HRM := Lib.hid hrm
  have HCN := Lib.hid hcn
  clear hrm hcn
  rcases Nat.lt_or_ge cn rm with hlt | hge
  · have hi : (cn : Int) < (rm : Int) := by omega
    rw [if_neg (by omega), if_neg (by omega)] at HV
    go_wp2_with fail
    refine HBR.out.mono ?_
    rintro e wq ⟨rfl, hwq⟩
    rw [hwq]
    clear hwq wq
    go_wp2_with fail
    refine HU5.out.mono ?_
    rintro e wq ⟨rfl, hwq⟩
    rw [hwq]
    clear hwq wq
    go_wp2_with fail
    refine HR5.out.mono ?_
    rintro e w7 ⟨rfl, hb7⟩
    have HK7a := Lib.hid (HK5.out.keep hb7)
    have HQ7a := Lib.hid (HQ5.out.keep hb7)
    have HT7a := Lib.hid (HT5.out.trans (CT.of_below hb7))
    have HU7 := Lib.hid (c_used HK7a.out)
    have HR7 := Lib.hid (c_room HK7a.out)
    rw [show C.L.cnt = cn from HCN.out.symm] at HU7
    rw [← HRM.out] at HR7
    clear hb7 HU5 HR5 HBR c32
    go_wp2_with fail
    refine HU7.out.mono ?_
    rintro e wq ⟨rfl, hwq⟩
    rw [hwq]
    clear hwq wq
    go_wp2_with fail
    refine HR7.out.mono ?_
    rintro e w8 ⟨rfl, hb8⟩
    have HK8a := Lib.hid (HK7a.out.keep hb8)
    have HQ8a := Lib.hid (HQ7a.out.keep hb8)
    have HT8a := Lib.hid (HT7a.out.trans (CT.of_below hb8))
    clear hb8 HU7 HR7 HK5 HQ5 HT5 HK7a HQ7a HT7a HK1 HQ1 HB5
    go_upto_region 13 with fail
    have HFQ : Hid (Far m [gl] gq) := Lib.hid (⟨HFG.out.1, fun hm => HFG.out.2 (by simp at hm ⊢; exact .inl hm)⟩)
    obtain ⟨wS, hwS⟩ : ∃ wS, wS = w8.drew := ⟨_, rfl⟩
    have HD : Hid (Below w8.heap.size w8 wS) := Lib.hid (by rw [hwS]; exact (Below.refl _ _).drew)
    have HKS := Lib.hid (HK8a.out.keep HD.out)
    have HQS := Lib.hid (HQ8a.out.keep HD.out)
    refine kZ (n := 7) (fun W => (Blk W gc 84 (cacheC gl gi til) ∧ Blk W gq 35 (entP q).toArray)) (by rw [← hwS]; exact ⟨HKS.out.blk, HQS.out⟩) (h := fun hH => ?_)
    rw [← hwS] at hH ⊢
    clear hwS
    refine kM 0 (some 48) (.pointer (some ⟨gc, 0, none⟩)) (h := ?_)
    simp only [p1, p2, p3, p4, p5]
    refine kT 1 (some 49) (.pointer (some ⟨gc, 0, none⟩)) (h := ?_)
    simp only [p1, p2, p3, p4, p5]
    refine kT 2 (some 50) (.pointer (some ⟨gc, 0, none⟩)) (h := ?_)
    simp only [p1, p2, p3, p4, p5]
    refine kC 3 (some 51) (v := .pointer (some ⟨gl, 0, none⟩)) (fun _ hX => (cache_cells hX.1).1) (h := ?_)
    simp only [p1, p2, p3, p4, p5]
    refine kL 4 (some 52) (cs := entP q) (fun _ hX => hX.2.range) (HQL.out) (h := ?_)
    simp only [p1, p2, p3, p4, p5]
    refine kF 5 (some 53) ((HAP.out wS m HKS.out.lk).mono ?_)
    rintro e w6 ⟨rfl, m6, hlk6, ht6⟩
    have HK6 := Lib.hid (HKS.out.log hlk6 ht6)
    have HT6 : Hid (CT [gl, bi] w m w6 m6) := Lib.hid (HT8a.out.trans ((CT.of_below HD.out).trans (CT.of_lt ht6 (.inl (by simp)))))
    have HQ6 := Lib.hid (HQS.out.ct (CT.of_lt (F := [gl]) ht6 (.inl (by simp))) HFQ.out)
    clear hlk6 ht6
    refine ⟨_, rfl, ⟨HK6.out.blk, HQ6.out⟩, fun hH => ?_⟩
    simp only [p1, p2, p3, p4, p5]
    refine kT 6 (some 8) (valE pa) (h := ?_)
    simp only [p1, p2, p3, p4, p5]
    refine kE (h := ?_)
    clear HKS HQS HD
    cases pa with
    | some x =>
      obtain ⟨t, u, hv⟩ := valE_form x
      have HCA := Lib.hid (c_answer (some x) w6 (HAC.out))
      rw [hv] at HCA ⊢
      have hne := neq_nil t u
      clear hv
      go_wp2_with fail
      refine HCA.out.mono ?_
      rintro e w7 ⟨rfl, hb7⟩
      have HK7 := Lib.hid (HK6.out.keep hb7)
      have HT7 := Lib.hid (HT6.out.trans (CT.of_below hb7))
      clear hb7
      go_wp2_with fail
      go_ret
      rw [HV.out]
      exact ⟨rfl, m6, HK7.out.up (Nat.le_succ _), HT7.out⟩
    | none =>
      have hvn : valE none = .nilIface := rfl
      rw [hvn]
      go_upto_region 16 with fail
      obtain ⟨wS, hwS⟩ : ∃ wS, wS = w6.drew := ⟨_, rfl⟩
      have HD : Hid (Below w6.heap.size w6 wS) := Lib.hid (by rw [hwS]; exact (Below.refl _ _).drew)
      have HKS := Lib.hid (HK6.out.keep HD.out)
      have HQS := Lib.hid (HQ6.out.keep HD.out)
      refine kZ (n := 6) (fun W => (Blk W gc 84 (cacheC gl gi til) ∧ Blk W gq 35 (entP q).toArray)) (by rw [← hwS]; exact ⟨HKS.out.blk, HQS.out⟩) (h := fun hH => ?_)
      rw [← hwS] at hH ⊢
      clear hwS
      refine kM 0 (some 58) (.pointer (some ⟨gc, 0, none⟩)) (h := ?_)
      simp only [p1, p2, p3, p4, p5]
      refine kT 1 (some 59) (.pointer (some ⟨gc, 0, none⟩)) (h := ?_)
      simp only [p1, p2, p3, p4, p5]
      refine kT 2 (some 60) (.pointer (some ⟨gc, 1, none⟩)) (h := ?_)
      simp only [p1, p2, p3, p4, p5]
      refine kC 3 (some 61) (v := .pointer (some ⟨gi, 0, none⟩)) (fun _ hX => (cache_cells hX.1).2.1) (h := ?_)
      simp only [p1, p2, p3, p4, p5]
      refine kL 4 (some 62) (cs := entP q) (fun _ hX => hX.2.range) (HQL.out) (h := ?_)
      simp only [p1, p2, p3, p4, p5]
      refine kF 5 (some 63) ((xk_put wS gi bi n _ q HKS.out.ix HQ.out (by omega)).mono ?_)
      rintro e w8 ⟨pb, rfl, hx8, ho8⟩
      have HK8 := Lib.hid (HKS.out.index ho8 hx8)
      have HT8 := Lib.hid (HT6.out.trans ((CT.of_below HD.out).trans (CT.of_off (F := [gl, bi]) ho8 (by simp))))
      have HQB8 := Lib.hid ho8
      clear hx8 ho8
      refine ⟨_, rfl, ⟨HQB8.out.blk HKS.out.blk HKS.out.ne.2.2.2.1, HQB8.out.blk HQS.out HQB.out⟩, fun hH => ?_⟩
      simp only [p1, p2, p3, p4, p5]
      refine kE (h := ?_)
      go_wp2_with fail
      go_ret
      rw [HV.out]
      exact ⟨rfl, m6, HK8.out, HT8.out⟩
  · have hi : (rm : Int) ≤ (cn : Int) := by omega
    rw [if_pos (by omega)] at HV
    go_wp2_with fail
    refine HBR.out.mono ?_
    rintro e wq ⟨rfl, hwq⟩
    rw [hwq]
    clear hwq wq
    go_wp2_with fail
    refine HU5.out.mono ?_
    rintro e wq ⟨rfl, hwq⟩
    rw [hwq]
    clear hwq wq
    go_wp2_with fail
    refine HR5.out.mono ?_
    rintro e w7 ⟨rfl, hb7⟩
    have HC7 := Lib.hid (HCP.out w7 m (HK5.out.keep hb7))
    have HQ7 := Lib.hid (HQ5.out.keep hb7)
    have HT7 := Lib.hid (HT5.out.trans (CT.of_below hb7))
    have hg7 : gq < w7.heap.size := HQ7.out.lt
    clear hb7 HU5 HR5 HBR c32
    go_wp2_with fail
    refine HC7.out.mono ?_
    rintro e w9 ⟨rfl, m9, hk9, ht9⟩
    have HK9 := Lib.hid hk9
    have HT9 := Lib.hid (HT7.out.trans ht9)
    have HQ9 := Lib.hid (HQ7.out.ct ht9 (HFG.out))
    have HF9 := Lib.hid (ht9.far hg7 HFG.out)
    clear hk9 ht9 HK5 HQ5 HT5 HK1 HQ1 HB5 hg7 HC7 HT7 HQ7
    cases xa with
    | some x =>
      obtain ⟨ty, u, hv⟩ := valE_form x
      have HCA := Lib.hid (c_answer (some x) w9 HXC.out)
      rw [hv] at HCA ⊢
      have hne := neq_nil ty u
      clear hv
      go_wp2_with fail
      refine HCA.out.mono ?_
      rintro e w10 ⟨rfl, hb10⟩
      have HKA := Lib.hid (HK9.out.keep hb10)
      have HTA := Lib.hid (HT9.out.trans (CT.of_below hb10))
      clear hb10
      go_wp2_with fail
      go_ret
      rw [HV.out]
      exact ⟨rfl, m9, HKA.out.up (Nat.le_succ _), HTA.out⟩
    | none =>
      have hvn : valE none = .nilIface := rfl
      rw [hvn]
      obtain ⟨c2, hc2⟩ : ∃ c : Nat, c = xC.L.cnt := ⟨_, rfl⟩
      have HU9 := Lib.hid (c_used HK9.out)
      have HR9 := Lib.hid (c_room HK9.out)
      have HV2 : Hid (insR d h C q now = insT xd h xC q) := Lib.hid HV.out
      replace HV := HV2
      clear HV2 HAP HAC pa pd pl
      rw [← hc2] at HU9
      rw [← HRM.out] at HR9
      have HC2 := Lib.hid hc2
      clear hc2
      rcases Nat.lt_or_ge c2 rm with hlt2 | hge2
      · have hi2 : (c2 : Int) < (rm : Int) := by omega
        obtain ⟨pa, hpa⟩ : ∃ x, x = appA xd h xC.L q := ⟨_, rfl⟩
        obtain ⟨pd, hpd⟩ : ∃ x, x = appD xd h xC.L q := ⟨_, rfl⟩
        obtain ⟨pl, hpl⟩ : ∃ x, x = appL xd h xC.L q := ⟨_, rfl⟩
        obtain ⟨til, htil⟩ : ∃ t, t = xC.til := ⟨_, rfl⟩
        have HAP : Hid (∀ W M, LK W M xd gl h xC.L → Calls Tryz.prog 33 #[.pointer (some ⟨gl, 0, none⟩), .agg (entP q).toArray] W fun e w' => e = .returned (valE pa) ∧ ∃ m', LK w' m' pd gl h pl ∧ LT gl W M w' m') := Lib.hid (by rw [hpa, hpd, hpl]; exact fun W M kk => log_append q W M xd gl h xC.L kk HQ.out HXR.out)
        have HAC : Hid (isI64 (codeA pa)) := Lib.hid (by rw [hpa]; exact appA_code xd h xC.L q)
        have HV3 : Hid (insR d h C q now = match (generalizing := false) pa with
          | none => (10, pd, ⟨pl, (refPut xC.E q).1, til⟩)
          | some x => (ansC (some x), pd, ⟨pl, xC.E, til⟩)) := Lib.hid (by
            rw [HV.out]
            unfold insT
            rw [← HC2.out, ← HRM.out, if_neg (by omega), hpa, hpd, hpl, htil])
        replace HV := HV3
        have HKc : Hid (CK w9 m9 xd gc gl gi bi h n ⟨xC.L, xC.E, til⟩) := Lib.hid (by rw [htil]; exact HK9.out)
        have HFG := HF9
        clear HV3 hpa hpd hpl htil
        go_wp2_with fail
        refine HU9.out.mono ?_
        rintro e wq ⟨rfl, hwq⟩
        rw [hwq]
        clear hwq wq
        go_wp2_with fail
        refine HR9.out.mono ?_
        rintro e wB ⟨rfl, hb10⟩
        have HKB := Lib.hid (HKc.out.keep hb10)
        have HQB2 := Lib.hid (HQ9.out.keep hb10)
        have HTB := Lib.hid (HT9.out.trans (CT.of_below hb10))
        clear hb10 HU9 HR9 HK9 HKc HQ9 HT9
        go_upto_region 13 with fail
        have HFQ : Hid (Far m9 [gl] gq) := Lib.hid (⟨HFG.out.1, fun hm => HFG.out.2 (by simp at hm ⊢; exact .inl hm)⟩)
        obtain ⟨wS, hwS⟩ : ∃ wS, wS = wB.drew := ⟨_, rfl⟩
        have HD : Hid (Below wB.heap.size wB wS) := Lib.hid (by rw [hwS]; exact (Below.refl _ _).drew)
        have HKS := Lib.hid (HKB.out.keep HD.out)
        have HQS := Lib.hid (HQB2.out.keep HD.out)
        refine kZ (n := 7) (fun W => (Blk W gc 84 (cacheC gl gi til) ∧ Blk W gq 35 (entP q).toArray)) (by rw [← hwS]; exact ⟨HKS.out.blk, HQS.out⟩) (h := fun hH => ?_)
        rw [← hwS] at hH ⊢
        clear hwS
        refine kM 0 (some 48) (.pointer (some ⟨gc, 0, none⟩)) (h := ?_)
        simp only [p1, p2, p3, p4, p5]
        refine kT 1 (some 49) (.pointer (some ⟨gc, 0, none⟩)) (h := ?_)
        simp only [p1, p2, p3, p4, p5]
        refine kT 2 (some 50) (.pointer (some ⟨gc, 0, none⟩)) (h := ?_)
        simp only [p1, p2, p3, p4, p5]
        refine kC 3 (some 51) (v := .pointer (some ⟨gl, 0, none⟩)) (fun _ hX => (cache_cells hX.1).1) (h := ?_)
        simp only [p1, p2, p3, p4, p5]
        refine kL 4 (some 52) (cs := entP q) (fun _ hX => hX.2.range) (HQL.out) (h := ?_)
        simp only [p1, p2, p3, p4, p5]
        refine kF 5 (some 53) ((HAP.out wS m9 HKS.out.lk).mono ?_)
        rintro e w6 ⟨rfl, m6, hlk6, ht6⟩
        have HK6 := Lib.hid (HKS.out.log hlk6 ht6)
        have HT6 : Hid (CT [gl, bi] w m w6 m6) := Lib.hid (HTB.out.trans ((CT.of_below HD.out).trans (CT.of_lt ht6 (.inl (by simp)))))
        have HQ6 := Lib.hid (HQS.out.ct (CT.of_lt (F := [gl]) ht6 (.inl (by simp))) HFQ.out)
        clear hlk6 ht6
        refine ⟨_, rfl, ⟨HK6.out.blk, HQ6.out⟩, fun hH => ?_⟩
        simp only [p1, p2, p3, p4, p5]
        refine kT 6 (some 8) (valE pa) (h := ?_)
        simp only [p1, p2, p3, p4, p5]
        refine kE (h := ?_)
        clear HKS HQS HD
        cases pa with
        | some x =>
          obtain ⟨t, u, hv⟩ := valE_form x
          have HCA := Lib.hid (c_answer (some x) w6 (HAC.out))
          rw [hv] at HCA ⊢
          have hne := neq_nil t u
          clear hv
          go_wp2_with fail
          refine HCA.out.mono ?_
          rintro e w7 ⟨rfl, hb7⟩
          have HK7 := Lib.hid (HK6.out.keep hb7)
          have HT7 := Lib.hid (HT6.out.trans (CT.of_below hb7))
          clear hb7
          go_wp2_with fail
          go_ret
          rw [HV.out]
          exact ⟨rfl, m6, HK7.out.up (Nat.le_succ _), HT7.out⟩
        | none =>
          have hvn : valE none = .nilIface := rfl
          rw [hvn]
          go_upto_region 16 with fail
          obtain ⟨wS, hwS⟩ : ∃ wS, wS = w6.drew := ⟨_, rfl⟩
          have HD : Hid (Below w6.heap.size w6 wS) := Lib.hid (by rw [hwS]; exact (Below.refl _ _).drew)
          have HKS := Lib.hid (HK6.out.keep HD.out)
          have HQS := Lib.hid (HQ6.out.keep HD.out)
          refine kZ (n := 6) (fun W => (Blk W gc 84 (cacheC gl gi til) ∧ Blk W gq 35 (entP q).toArray)) (by rw [← hwS]; exact ⟨HKS.out.blk, HQS.out⟩) (h := fun hH => ?_)
          rw [← hwS] at hH ⊢
          clear hwS
          refine kM 0 (some 58) (.pointer (some ⟨gc, 0, none⟩)) (h := ?_)
          simp only [p1, p2, p3, p4, p5]
          refine kT 1 (some 59) (.pointer (some ⟨gc, 0, none⟩)) (h := ?_)
          simp only [p1, p2, p3, p4, p5]
          refine kT 2 (some 60) (.pointer (some ⟨gc, 1, none⟩)) (h := ?_)
          simp only [p1, p2, p3, p4, p5]
          refine kC 3 (some 61) (v := .pointer (some ⟨gi, 0, none⟩)) (fun _ hX => (cache_cells hX.1).2.1) (h := ?_)
          simp only [p1, p2, p3, p4, p5]
          refine kL 4 (some 62) (cs := entP q) (fun _ hX => hX.2.range) (HQL.out) (h := ?_)
          simp only [p1, p2, p3, p4, p5]
          refine kF 5 (some 63) ((xk_put wS gi bi n _ q HKS.out.ix HQ.out (by omega)).mono ?_)
          rintro e w8 ⟨pb, rfl, hx8, ho8⟩
          have HK8 := Lib.hid (HKS.out.index ho8 hx8)
          have HT8 := Lib.hid (HT6.out.trans ((CT.of_below HD.out).trans (CT.of_off (F := [gl, bi]) ho8 (by simp))))
          have HQB8 := Lib.hid ho8
          clear hx8 ho8
          refine ⟨_, rfl, ⟨HQB8.out.blk HKS.out.blk HKS.out.ne.2.2.2.1, HQB8.out.blk HQS.out HQB.out⟩, fun hH => ?_⟩
          simp only [p1, p2, p3, p4, p5]
          refine kE (h := ?_)
          go_wp2_with fail
          go_ret
          rw [HV.out]
          exact ⟨rfl, m6, HK8.out, HT8.out⟩
      · have hi2 : (rm : Int) ≤ (c2 : Int) := by omega
        go_wp2_with fail
        refine HU9.out.mono ?_
        rintro e wq ⟨rfl, hwq⟩
        rw [hwq]
        clear hwq wq
        go_wp2_with fail
        refine HR9.out.mono ?_
        rintro e wB ⟨rfl, hb10⟩
        have HKB := Lib.hid (HK9.out.keep hb10)
        have HTB := Lib.hid (HT9.out.trans (CT.of_below hb10))
        clear hb10
        go_wp2_with fail
        go_ret
        rw [HV.out]
        unfold insT
        rw [← HC2.out, ← HRM.out, if_pos (by omega)]
        exact ⟨rfl, m9, HKB.out.up (Nat.le_succ _), HTB.out⟩
end Go.Proofs.YtombncedfleljaaGreat
