/- Parts: reclog: lastGeneration. | The hand walk in few words, more of it: a call and an alloc in either order. No program is named here. -/
import Derived.Test.YtombncedfleljaaGreatMK22
import Derived.Test.YtombncedfleljaaGreatMK1
import Derived.ScopeJumps
import Derived.Test.YtombncedfleljaaGreatMK8
namespace Go.Proofs.YtombncedfleljaaGreat
open Go.RowKit
attribute [local irreducible] wpQuiet wpAnyH
set_option linter.unusedSimpArgs false

def tagS (s : List Int) : Nat := beN ((s.drop 60).take 4)
def lastN (d : DiskD) : Nat → Nat
  | 0 => 0
  | k + 1 => max (lastN d k) (tagS (rdS d k))
theorem tagS_lt {s : List Int} (h : Sec s) : tagS s < 4294967296 := by
  have := beN_lt ((s.drop 60).take 4) (fun c hc => h.2 c (List.mem_of_mem_drop (List.mem_of_mem_take hc)))
  rw [List.length_take, List.length_drop, h.1] at this
  exact this
theorem lastN_lt {d : DiskD} (h : DOk d) : ∀ k, lastN d k < 4294967296
  | 0 => by unfold lastN; omega
  | k + 1 => by
    have h1 := lastN_lt h k
    have h2 := tagS_lt (rdS_sec h k)
    unfold lastN
    omega
/-- What holds at the label. -/
structure LJ (d : DiskD) (g n : Nat) (w : World) (a' : Act) (w' : World) : Prop where
  ex : ∃ (k x : Nat) (u6 u7 u8 u9 u10 u11 u12 u13 u14 u15 u16 u17 u18 u19 u20 u21 u22 u23 u24 u25 u26 u27 u28 u29 u30 : Value), a' = { tmps := #[.pointer (some ⟨g, 0, none⟩), undef, .int .u32 0, .nilIface, .int .u32 (x : Int), .int .i64 (k : Int), u6, u7, u8, u9, u10, u11, u12, u13, u14, u15, u16, u17, u18, u19, u20, u21, u22, u23, u24, u25, u26, u27, u28, u29, u30], defers := [] } ∧ k ≤ n ∧ Hid ((x : Int) = (lastN d k : Nat)) ∧ Hid (Below w.heap.size w w')
set_option maxRecDepth 100000 in
set_option maxHeartbeats 4000000 in
theorem last_generation (w : World) (m : DiskM) (d : DiskD) (h : DK w m d) (hd : d.down = false) :
    Calls Tryz.prog 66 #[.pointer (some ⟨m.g, 0, none⟩)] w fun e w' => e = .returned (.tuple #[.int .u32 (lastN d d.sec.length), .nilIface]) ∧ Below w.heap.size w w' := by
  have HK := Lib.hid h
  have hn : (d.sec.length : Int) ≤ 4096 := by have := h.ok.few; omega
  have HSZ := Lib.hid (fun W (hb : Below w.heap.size w W) => disk_size W m d (HK.out.keep hb))
  have HRD := Lib.hid (fun W (hb : Below w.heap.size w W) (a : Int) (ha : isI64 a) => disk_read a W m d (HK.out.keep hb) ha)
  have HE : Hid (∀ k : Nat, k < d.sec.length → rdE d k = .nilIface) := Lib.hid (fun k hk => by unfold rdE hasB; rw [hd]; simp; omega)
  obtain ⟨g, hg⟩ : ∃ g, g = m.g := ⟨_, rfl⟩
  rw [← hg] at HSZ HRD ⊢
  obtain ⟨n, hnn⟩ : ∃ n, n = d.sec.length := ⟨_, rfl⟩
  rw [← hnn] at HSZ HE hn ⊢
  have HSEC : Hid (∀ k : Nat, Sec (rdS d k)) := Lib.hid (fun k => rdS_sec HK.out.ok k)
  have HLT : Hid (∀ k, lastN d k < 4294967296) := Lib.hid (lastN_lt HK.out.ok)
  have hzl : z64.size = 64 := z64_size
  clear h hd hg hnn
  go_enter Tryz.func66, Tryz.ntmps66
  go_wp2_with fail
  refine wp_scope_jumps 0 (LJ d g n w) (fun a' _ => n - (intOf (a'.tmps.getD 5 undef)).toNat) rfl ?_ ?_
  · have HB : Hid (Below w.heap.size w w) := Lib.hid (Below.refl _ _)
    have HX : Hid ((0 : Int) = (lastN d 0 : Nat)) := Lib.hid rfl
    go_wp2_with fail
    go_step3
    go_wp2_with fail
    refine (HSZ.out w HB.out).mono ?_
    rintro e w2 ⟨rfl, hw2⟩
    rw [hw2]
    clear hw2 w2
    rcases Nat.lt_or_ge 0 n with hlt | hge
    · have hki : ((0 : Int) : Int) < n := by omega
      have HR := HRD.out w HB.out (0 : Int) ⟨by omega, by omega⟩
      have hsec := HSEC.out 0
      have HRE := HE.out 0 hlt
      obtain ⟨s, hs⟩ : ∃ s, s = rdS d (0 : Int) := ⟨_, rfl⟩
      have HS : Hid (s = rdS d (0 : Nat)) := Lib.hid hs
      have hss : Sec s := by rw [HS.out]; exact hsec
      have HRE2 : rdE d (0 : Int) = .nilIface := HRE
      rw [HRE2, ← hs] at HR
      have HS3 : Hid (64 = (u8s s).toArray.size ∧ (u8s s).toArray.all (·.oneCell') = true ∧ (Tryz.prog.info? 144).map (·.size) = some (u8s s).toArray.size) := Lib.hid ⟨by simp [sec_length hss], u8s_one s, by simp only [List.size_toArray, sec_length hss]; kernel_rfl⟩
      have HSS := Lib.hid hss
      have HRR := Lib.hid HR
      obtain ⟨T, hT⟩ : ∃ T, T = tagS s := ⟨_, rfl⟩
      have HTL : Hid (T < 4294967296) := Lib.hid (by rw [hT]; exact tagS_lt hss)
      have HTG := Lib.hid (fun W => frame_tag s W HSS.out.1 HSS.out.2)
      have HT : Hid (T = tagS s) := Lib.hid hT
      have hTe : beN ((s.drop 60).take 4) = T := hT.symm
      rw [hTe] at HTG
      clear hs hss hsec HRE HRE2 HR hT hTe
      go_upto_region 5 with (first
        | (go_at_call 90; refine HRR.out.mono ?_; rintro e w3 ⟨rfl, hb3⟩)
        | (refine al 144 z64 rfl rfl zero64 ?_)
        | (refine stNew 144 (.tmp 6) (.tmp 17) rfl rfl rfl rfl HS3.out.2.2 (by rw [hzl]; exact HS3.out.1) HS3.out.2.1 ?_; intro w4 hB4 hb4 hs4))
      obtain ⟨gs, hgs⟩ : ∃ gs, gs = w3.heap.size := ⟨_, rfl⟩
      have HBS : Hid (Blk w4 gs 144 (u8s s).toArray) := Lib.hid (by rw [hgs]; exact hB4)
      have HB4 : Hid (Below w.heap.size w w4) := Lib.hid (bstep (bstep HB.out hb3) hb4)
      rw [← hgs]
      have HRG : Hid (w4.rangeAt gs 0 (u8s s)) := Lib.hid (by have h := HBS.out.range; rwa [List.toList_toArray] at h)
      have hinc : IntKind.i64.wrap ((0 : Int) + 1) = ((0 + 1 : Nat) : Int) := by rw [IntWalk.i64_in _ (by omega)]; omega
      clear hB4 hb4 hs4 hb3 hgs HRR
      have hiw : (0 : Int) + 1 ≤ 9223372036854775807 := by omega
      have hTi : (T : Int) ≤ 4294967295 := by have := HTL.out; omega
      go_upto_region 9 with (first
        | (refine ld 144 _ rfl rfl rfl HRG.out Tryz.underlying144 rfl (by simpa using HS3.out.2.2) ?_)
        | (go_at_call 91; refine (HTG.out w4).mono ?_; rintro e w5 ⟨rfl, hb5⟩))
      have HB5 : Hid (Below w.heap.size w w5) := Lib.hid (bstep HB4.out hb5)
      clear hb5
      rcases Int.lt_or_le (0 : Int) (T : Int) with hgt | hle
      · have HX1 : Hid ((T : Int) = (lastN d (0 + 1) : Nat)) := Lib.hid (by
          have h2 : tagS (rdS d ((0 : Nat) : Int)) = T := by rw [HT.out, HS.out]
          have h1 : lastN d (0 + 1) = max (lastN d 0) T := by rw [← h2]; rfl
          rw [h1]
          have := HX.out
          omega)
        go_wp2_with fail
        go_step3
        refine ⟨rfl, ⟨0 + 1, (lastN d (0 + 1)), _, _, _, _, _, _, _, _, _, _, _, _, _, _, _, _, _, _, _, _, _, _, _, _, _, by rw [← HX1.out]; rfl, by omega, Lib.hid rfl, HB5⟩⟩
      · have HX1 : Hid ((0 : Int) = (lastN d (0 + 1) : Nat)) := Lib.hid (by
          have h2 : tagS (rdS d ((0 : Nat) : Int)) = T := by rw [HT.out, HS.out]
          have h1 : lastN d (0 + 1) = max (lastN d 0) T := by rw [← h2]; rfl
          rw [h1]
          have := HX.out
          omega)
        go_wp2_with fail
        go_step3
        refine ⟨rfl, ⟨0 + 1, (lastN d (0 + 1)), _, _, _, _, _, _, _, _, _, _, _, _, _, _, _, _, _, _, _, _, _, _, _, _, _, by rw [← HX1.out]; rfl, by omega, Lib.hid rfl, HB5⟩⟩
    · have hki : (n : Int) ≤ (0 : Int) := by omega
      go_wp2_with fail
      simp only [Exit.jump]
      refine bodyPost_ret (results_tmp2 rfl _ _ _) rfl ?_
      have hkn : n = 0 := by omega
      exact ⟨by rw [hkn, ← HX.out]; rfl, HB.out⟩
  · rintro a' wr ⟨k, x, u6, u7, u8, u9, u10, u11, u12, u13, u14, u15, u16, u17, u18, u19, u20, u21, u22, u23, u24, u25, u26, u27, u28, u29, u30, rfl, hk, HX, HB⟩
    have hx1 : (x : Int) ≤ 4294967295 := by have := HX.out; have := HLT.out k; omega
    have hk0 : (0 : Int) ≤ k := by omega
    have hk1 : (k : Int) ≤ n := by omega
    go_wp2_with fail
    refine (HSZ.out wr HB.out).mono ?_
    rintro e w2 ⟨rfl, hw2⟩
    rw [hw2]
    clear hw2 w2
    rcases Nat.lt_or_ge k n with hlt | hge
    · have hki : ((k : Int) : Int) < n := by omega
      have HR := HRD.out wr HB.out (k : Int) ⟨by omega, by omega⟩
      have hsec := HSEC.out k
      have HRE := HE.out k hlt
      obtain ⟨s, hs⟩ : ∃ s, s = rdS d (k : Int) := ⟨_, rfl⟩
      have HS : Hid (s = rdS d (k : Nat)) := Lib.hid hs
      have hss : Sec s := by rw [HS.out]; exact hsec
      have HRE2 : rdE d (k : Int) = .nilIface := HRE
      rw [HRE2, ← hs] at HR
      have HS3 : Hid (64 = (u8s s).toArray.size ∧ (u8s s).toArray.all (·.oneCell') = true ∧ (Tryz.prog.info? 144).map (·.size) = some (u8s s).toArray.size) := Lib.hid ⟨by simp [sec_length hss], u8s_one s, by simp only [List.size_toArray, sec_length hss]; kernel_rfl⟩
      have HSS := Lib.hid hss
      have HRR := Lib.hid HR
      obtain ⟨T, hT⟩ : ∃ T, T = tagS s := ⟨_, rfl⟩
      have HTL : Hid (T < 4294967296) := Lib.hid (by rw [hT]; exact tagS_lt hss)
      have HTG := Lib.hid (fun W => frame_tag s W HSS.out.1 HSS.out.2)
      have HT : Hid (T = tagS s) := Lib.hid hT
      have hTe : beN ((s.drop 60).take 4) = T := hT.symm
      rw [hTe] at HTG
      clear hs hss hsec HRE HRE2 HR hT hTe
      go_upto_region 5 with (first
        | (go_at_call 90; refine HRR.out.mono ?_; rintro e w3 ⟨rfl, hb3⟩)
        | (refine al 144 z64 rfl rfl zero64 ?_)
        | (refine stNew 144 (.tmp 6) (.tmp 17) rfl rfl rfl rfl HS3.out.2.2 (by rw [hzl]; exact HS3.out.1) HS3.out.2.1 ?_; intro w4 hB4 hb4 hs4))
      obtain ⟨gs, hgs⟩ : ∃ gs, gs = w3.heap.size := ⟨_, rfl⟩
      have HBS : Hid (Blk w4 gs 144 (u8s s).toArray) := Lib.hid (by rw [hgs]; exact hB4)
      have HB4 : Hid (Below w.heap.size w w4) := Lib.hid (bstep (bstep HB.out hb3) hb4)
      rw [← hgs]
      have HRG : Hid (w4.rangeAt gs 0 (u8s s)) := Lib.hid (by have h := HBS.out.range; rwa [List.toList_toArray] at h)
      have hinc : IntKind.i64.wrap ((k : Int) + 1) = ((k + 1 : Nat) : Int) := by rw [IntWalk.i64_in _ (by omega)]; omega
      clear hB4 hb4 hs4 hb3 hgs HRR
      have hiw : (k : Int) + 1 ≤ 9223372036854775807 := by omega
      have hTi : (T : Int) ≤ 4294967295 := by have := HTL.out; omega
      go_upto_region 9 with (first
        | (refine ld 144 _ rfl rfl rfl HRG.out Tryz.underlying144 rfl (by simpa using HS3.out.2.2) ?_)
        | (go_at_call 91; refine (HTG.out w4).mono ?_; rintro e w5 ⟨rfl, hb5⟩))
      have HB5 : Hid (Below w.heap.size w w5) := Lib.hid (bstep HB4.out hb5)
      clear hb5
      rcases Int.lt_or_le (x : Int) (T : Int) with hgt | hle
      · have HX1 : Hid ((T : Int) = (lastN d (k + 1) : Nat)) := Lib.hid (by
          have h2 : tagS (rdS d ((k : Nat) : Int)) = T := by rw [HT.out, HS.out]
          have h1 : lastN d (k + 1) = max (lastN d k) T := by rw [← h2]; rfl
          rw [h1]
          have := HX.out
          omega)
        go_wp2_with fail
        go_step3
        refine ⟨rfl, ⟨⟨k + 1, (lastN d (k + 1)), _, _, _, _, _, _, _, _, _, _, _, _, _, _, _, _, _, _, _, _, _, _, _, _, _, by rw [← HX1.out]; rfl, by omega, Lib.hid rfl, HB5⟩⟩, ?_⟩
        simp [intOf]
        omega
      · have HX1 : Hid ((x : Int) = (lastN d (k + 1) : Nat)) := Lib.hid (by
          have h2 : tagS (rdS d ((k : Nat) : Int)) = T := by rw [HT.out, HS.out]
          have h1 : lastN d (k + 1) = max (lastN d k) T := by rw [← h2]; rfl
          rw [h1]
          have := HX.out
          omega)
        have t9 : decide (x < T) = false := by simp only [decide_eq_false_iff_not]; omega
        clear hle
        go_wp2_with fail
        go_step3
        refine ⟨rfl, ⟨⟨k + 1, (lastN d (k + 1)), _, _, _, _, _, _, _, _, _, _, _, _, _, _, _, _, _, _, _, _, _, _, _, _, _, by rw [← HX1.out]; rfl, by omega, Lib.hid rfl, HB5⟩⟩, ?_⟩
        simp [intOf]
        omega
    · have hki : (n : Int) ≤ (k : Int) := by omega
      go_wp2_with fail
      simp only [Exit.jump]
      refine bodyPost_ret (results_tmp2 rfl _ _ _) rfl ?_
      have hkn : n = k := by omega
      exact ⟨by rw [hkn, ← HX.out]; rfl, HB.out⟩
end Go.Proofs.YtombncedfleljaaGreat
namespace Go.Proofs.YtombncedfleljaaGreat
open Go.RowKit
section
variable {P : Program} {ops : Array Oper} {Q : Exit → Act → World → Prop} {S : World → Prop} {a : Act} {w : World} {listed : Array Bool} {fuel : Nat}
/-- Two that may come up, in either order. -/
def kTwo (ops : Array Oper) (listed : Array Bool) (i j : Nat) : Bool :=
  (Region.ready .any ops listed == [i, j]) && ((ops[i]?).map (fun o => o.guard.isNone)).any (· == true) && ((ops[j]?).map (fun o => o.guard.isNone)).any (· == true)
theorem wanted_free {o : Oper} (h : o.guard = none) (ys : Array Value) : Region.wanted o (yielded ops ys) = true := by
  unfold Region.wanted
  rw [h]
theorem kTwo.out {i j : Nat} {oi oj : Oper} (hi : ops[i]? = some oi) (hj : ops[j]? = some oj) (h : kTwo ops listed i j = true) :
    Region.ready .any ops listed = [i, j] ∧ oi.guard = none ∧ oj.guard = none := by
  unfold kTwo at h
  simp only [Bool.and_eq_true, hi, hj, Option.map_some, Option.any_some, beq_iff_eq, Option.isNone_iff_eq_none] at h
  exact ⟨h.1.1, h.1.2, h.2⟩
theorem run_allocK {ty : TypeId} {zs : Array Value} (hz : ∀ w, (zeroValue ty).run P w = .ok (.agg zs) w) {o : Oper} (hop : o.op = .alloc ty) (e : Operand → Value) (w : World) :
    (execOp e o).run P w = .ok (.value (.pointer (some ⟨w.heap.size, 0, none⟩))) (w.alloc (.cells zs ty)) := by
  unfold execOp
  simp only [hop]
  unfold Instr.alloc newVar newRow
  simp only [Sem.run_bind, hz, Result.andThen_ok]
  rfl
/-- A call and an alloc may come up. -/
theorem kCA (i j : Nat) (di dj : Option Tmp) {oi oj : Oper} {f : FuncId} {args zs : Array Value} {ty : TypeId}
    (hz : ∀ w, (zeroValue ty).run P w = .ok (.agg zs) w)
    (h1 : Calls P f args w fun e w' => ∃ v, e = .returned v ∧ S w' ∧ (S w' → wpAnyH P .any ops Q S fuel (listed.setIfInBounds i true) (a.put di v) w'))
    (hS : S (w.alloc (.cells zs ty)))
    (h2 : wpAnyH P .any ops Q S fuel (listed.setIfInBounds j true) (a.put dj (.pointer (some ⟨w.heap.size, 0, none⟩))) (w.alloc (.cells zs ty)))
    (hi : ops[i]? = some oi := by rfl) (hj : ops[j]? = some oj := by rfl) (hdi : oi.dst = di := by rfl) (hdj : oj.dst = dj := by rfl) (hop : oj.op = .alloc ty := by rfl) (hc : kTwo ops listed i j = true := by kernel_rfl)
    (hent : ∀ w, (execOp a.eval oi).run P w = .ok (.enter f args) w := by intro w; unfold execOp; go_simp) : wpAnyH P .any ops Q S (fuel + 1) listed a w := by
  subst hdi hdj
  obtain ⟨r0, gi, gj⟩ := kTwo.out hi hj hc
  refine wpAnyH_ready r0 (by simp) (AllReadyH.cons hi (fun K hK => ?_) (AllReadyH.cons hj (fun K hK => ?_) AllReadyH.nil))
  · rw [if_pos (wanted_free gi _)]
    unfold Oper.wp
    rw [hent, Oper.upon_enter]
    refine h1.mono ?_
    rintro e w' ⟨v, rfl, hS1, hk⟩
    exact hK.out _ _ hS1 hk
  · rw [if_pos (wanted_free gj _)]
    unfold Oper.wp
    rw [run_allocK hz hop, Oper.upon_value]
    exact hK.out _ _ hS (fun _ => h2)
/-- An alloc, alone ready. -/
theorem kA (i : Nat) (dst : Option Tmp) {zs : Array Value} {ty : TypeId} (hz : ∀ w, (zeroValue ty).run P w = .ok (.agg zs) w) (hS : S (w.alloc (.cells zs ty)))
    (h : wpAnyH P .any ops Q S fuel (listed.setIfInBounds i true) (a.put dst (.pointer (some ⟨w.heap.size, 0, none⟩))) (w.alloc (.cells zs ty)))
    {o : Oper} (ho : ops[i]? = some o := by rfl) (hdst : o.dst = dst := by rfl) (hop : o.op = .alloc ty := by rfl) (hc : kOne ops listed a i = true := by kernel_rfl) : wpAnyH P .any ops Q S (fuel + 1) listed a w := by
  subst hdst
  have k := kOne.out ho hc
  refine wpAnyH_ready k.1 (by simp) (AllReadyH.cons ho (fun K hK => ?_) AllReadyH.nil)
  rw [if_pos k.2]
  unfold Oper.wp
  rw [run_allocK hz hop, Oper.upon_value]
  exact hK.out _ _ hS (fun _ => h)
end
end Go.Proofs.YtombncedfleljaaGreat
