/- Parts: The law RcacheKeeps: its walk. -/
import Derived.Test.YtombncedfleljaaGreatMK31
import Derived.Test.YtombncedfleljaaGreatMK26
import Derived.Test.YtombncedfleljaaGreatMK5
namespace Go.Proofs.YtombncedfleljaaGreat
open Go.RowKit
attribute [local irreducible] wpQuiet wpAnyH
set_option linter.unusedSimpArgs false
set_option linter.unusedVariables false

def opZ21 : Array Value := #[.int .i64 0, .int .i64 0, .int .i64 0, .int .i64 0, .slice none 0 0]
theorem zeroOp21 : ∀ w, (zeroValue 31).run Tryz.prog w = .ok (.agg opZ21) w := fun w => by unfold opZ21; kernel_rfl
theorem opC21_all {w : World} {o : Op21} (ho : Op21Ok w o) : (opC21 o).toArray.all (·.oneCell') = true := by
  obtain ⟨A, c, e⟩ := ho.cuts.slc21
  unfold opC21
  rw [e, List.all_toArray]
  rfl
theorem CK.far_new {w : World} {m : DiskM} {d : DiskD} {F : List Nat} {b : Nat} (hk : DK w m d) (hF : ∀ x ∈ F, x < w.heap.size) (hb : w.heap.size ≤ b) : Far m F b := ⟨Apart.fresh hk hb, fun hm => by have := hF b hm; omega⟩
/-- The round's relation. -/
def KR (w0 wr : World) (g9 N k : Nat) (now : Int) (cv vs vm : Value) : Prop := ∃ m d F S M co, KC w0 wr m d k N now cv F S M co ∧ KB w0 wr m d k N F vs vm S M ∧ m.g = g9 ∧ 0 ≤ now ∧ now ≤ 1048576 * (k : Int)

set_option maxRecDepth 100000 in
set_option maxHeartbeats 40000000 in
theorem rkeeps_any (n : Nat) (hn : n ≤ 255) (A : Option Addr) (cap : Nat) (l : List Op21) (w : World) (hs : Sn w 5 (.slice A l.length cap) l.length (l.flatMap opC21)) (hok : ∀ o ∈ l, Op21Ok w o) (hl : l.length ≤ 9223372036854775807) :
    Calls Tryz.prog 3 #[.int .u8 n, .slice A l.length cap] w fun e w' => e = .returned (.bool true) ∧ Below w.heap.size w w' := by
  have HS := Lib.hid hs
  have HOK := Lib.hid hok
  clear hs hok
  have hni : (n : Int) ≤ 255 := by omega
  have hn0 : (0 : Int) ≤ n := by omega
  go_enter Tryz.func3, Tryz.ntmps3
  go_wp2_with fail
  refine (awake21 w).mono ?_
  rintro e w1 ⟨rfl, hb1⟩
  have HF := Lib.hid (few21 A cap l w1 (HS.out.below hb1) (fun o ho => (HOK.out o ho).keep hb1) hl)
  have HB1 := Lib.hid hb1
  clear hb1
  go_wp2_with fail
  refine HF.out.mono ?_
  rintro e w2 ⟨fb, rfl, hb2, hfw⟩
  have HB2 := Lib.hid (bstep HB1.out hb2)
  have HFW := Lib.hid hfw
  clear hb2 HF hfw HB1
  cases fb with
  | false =>
    go_wp2_with fail
    refine (awake21 w2).mono ?_
    rintro e w3 ⟨rfl, hb3⟩
    go_wp2_with fail
    go_ret
    exact ⟨rfl, bstep HB2.out hb3⟩
  | true =>
  have HFE := Lib.hid (HFW.out rfl)
  have hl40 := HFE.out.1
  clear HFW
  obtain ⟨N, hN⟩ : ∃ N : Nat, N = 2 + n % 10 := ⟨_, rfl⟩
  have hN1 : 2 ≤ N ∧ N ≤ 11 := by omega
  have HNI : Hid (2 + (n : Int) % 10 = (N : Int)) := Lib.hid (by omega)
  have HND := Lib.hid (disk_new N w2 (by omega) (by omega))
  clear hN
  go_wp2_with fail
  rw [HNI.out]
  refine HND.out.mono ?_
  rintro e w3 ⟨m3, rfl, hk3, hb3, hf3⟩
  have HK0 : Hid (KR w2 w3 m3.g N 0 0 (.pointer none) (.slice none 0 0) (.slice none 0 0)) := Lib.hid ⟨m3, newD N, [], [], none, none, .inl ⟨rfl, rfl, rfl, sb_new N hN1.1 (.inl rfl)⟩, ⟨⟨hk3, hf3, hb3⟩, Nat.zero_le _, List.length_replicate, VF.nil, VF.nil, WL.nil, Nat.zero_le _, fun q hq => by cases hq⟩, rfl, Int.le_refl _, Int.le_refl _⟩
  obtain ⟨g9, hg9⟩ : ∃ g, g = m3.g := ⟨_, rfl⟩
  rw [← hg9] at HK0 ⊢
  clear hk3 hb3 hf3 HND hg9
  have hnilT := eq_nilT21
  have HNU : Hid (∀ z t W, isI64 t → Calls Tryz.prog 9 #[.int .i64 z, .int .i64 t] W fun e W' => e = .returned (.agg (entP (numI z t)).toArray) ∧ Below W.heap.size W W') := Lib.hid (fun z t W h => number21 z t W h)
  go_wp2_with fail
  go_loopw [6, 7, 8, 9, 10] (fun v1 v2 v3 v4 i wr => ∃ (k : Nat) (now : Int) (cv vs vm : Value), cv = v1 ∧ v2 = .int .i64 now ∧ vs = v3 ∧ vm = v4 ∧ k ≤ l.length ∧ i = .int .i64 k ∧ Hid (KR w2 wr g9 N k now cv vs vm)) (fun _ _ _ _ i _ => l.length - (intOf i).toNat)
  case atStart => exact ⟨0, 0, _, _, _, rfl, rfl, rfl, rfl, Nat.zero_le _, rfl, HK0⟩
  case round =>
    clear HK0
    obtain ⟨k, now, cv, vs, vm, rfl, rfl, rfl, rfl, hk, rfl, HR⟩ := hrel
    obtain ⟨m, d, F, S, M, co, hkc, hkb, rfl, hnow0, hnow1⟩ := HR.out
    have hbw : Below w.heap.size w wr := bstep HB2.out hkb.st.bel
    have HKC := Lib.hid hkc
    have HKB := Lib.hid hkb
    clear HR
    rcases Nat.lt_or_ge k l.length with hlt | hge
    · have ho := HOK.out _ (List.getElem_mem hlt)
      obtain ⟨b, off, hA, hr⟩ := op_at21 (HS.out.below hbw) k hlt
      subst hA
      have hfe := HFE.out.2 _ (List.getElem_mem hlt)
      obtain ⟨o, hoe⟩ : ∃ o, o = l[k] := ⟨_, rfl⟩
      rw [← hoe] at ho hr hfe
      clear hoe
      have hone := opC21_all ho
      have hsz1 : (Tryz.prog.info? 31).map (·.size) = some (opC21 o).toArray.size := by rw [List.size_toArray]; exact opI21 o
      have hsz2 : opZ21.size = (opC21 o).toArray.size := rfl
      have HO := Lib.hid ho
      have HFO := Lib.hid hfe
      have hi0 : (0 : Int) ≤ k := by omega
      have hi1 : (k : Int) < l.length := by omega
      have HBW := Lib.hid hbw
      clear ho hfe hkc hkb
      go_upto_region 14 with (first
        | (refine ld 31 _ rfl rfl rfl hr Tryz.underlying31 rfl (opI21 o) ?_)
        | (refine al 31 opZ21 rfl rfl zeroOp21 ?_)
        | (refine stNew (cells := (opC21 o).toArray) 31 (.tmp 11) (.tmp 44) rfl rfl (by rfl) (by rfl) hsz1 hsz2 hone ?_; intro w4 hB4 hb4 hs4))
      obtain ⟨gO, hgO⟩ : ∃ gO, gO = wr.heap.size := ⟨_, rfl⟩
      rw [← hgO] at hB4 ⊢
      have HK4 := Lib.hid (HKC.out.keep hb4)
      have HW4 := Lib.hid (HKB.out.keep hb4)
      have HB4 : Hid (Below wr.heap.size wr w4) := Lib.hid hb4
      obtain ⟨c0, c1, c2, c3, cc⟩ := op_cells21 hB4
      clear hr hb4 hs4 hgO hone hbw hsz1 hsz2 hB4 HKC HKB
      obtain ⟨Ac, nc, ec⟩ := HO.out.cuts.slc21
      rw [ec] at cc
      have HEC := Lib.hid ec
      clear ec
      have hk40 : k ≤ 40 := by omega
      obtain ⟨f1, f2, f3, f4, f5⟩ := HFO.out
      have hrm : d.room ≤ 200 * k := HW4.out.rm
      have hln : d.sec.length = N := HW4.out.len
      have hsl : S.length ≤ 20 + k := HW4.out.sl
      rcases Bool.eq_false_or_eq_true (o.kind == 0) with t0 | t0
      · have ht64 : isI64 (now + o.more) := ⟨by omega, by omega⟩
        have hq := numI_ok o.ent (now + o.more) ht64
        go_upto_region 29 with fail
        have hta : -9223372036854775808 ≤ now + o.more := ht64.1
        have htb : now + o.more ≤ 9223372036854775807 := ht64.2
        go_wp2_with fail
        refine (HNU.out o.ent (now + o.more) w4 ht64).mono ?_
        rintro e w5 ⟨rfl, hb5⟩
        have HK5 := Lib.hid (HK4.out.keep hb5)
        have HW5 := Lib.hid (HW4.out.keep hb5)
        obtain ⟨q, hqe⟩ : ∃ q, q = numI o.ent (now + o.more) := ⟨_, rfl⟩
        rw [← hqe] at hq ⊢
        have HQ := Lib.hid hq
        have hql := entP_length q hq
        have HQI : Hid ((Tryz.prog.info? 35).map (·.size) = some (entP q).length) := Lib.hid (by rw [hql]; kernel_rfl)
        have HQL := Lib.hid hql
        have hsz1 : (Tryz.prog.info? 35).map (·.size) = some (entP q).toArray.size := by rw [List.size_toArray]; exact HQI.out
        have hsz2 : zE.size = (entP q).toArray.size := by rw [zE_size, List.size_toArray, hql]
        have hone : (entP q).toArray.all (·.oneCell') = true := entC_one _ _
        obtain ⟨E, hE⟩ : ∃ E, E = (entP q).toArray := ⟨_, rfl⟩
        rw [← hE] at hsz1 hsz2 hone ⊢
        have HE := Lib.hid hE
        clear hE hql hqe hq hb5 c0 c1 c2 c3 cc hta htb ht64
        go_upto_region 30 with (first
          | (refine al 35 _ rfl rfl zeroE ?_)
          | (refine stNew (cells := E) 35 (.tmp 12) (.tmp 101) rfl rfl (by rfl) (by rfl) hsz1 hsz2 hone ?_; intro w6 hB6 hb6 hs6))
        obtain ⟨gE, hgE⟩ : ∃ g, g = w5.heap.size := ⟨_, rfl⟩
        rw [← hgE] at hB6 ⊢
        have HK6 := Lib.hid (HK5.out.keep hb6)
        have HW6 := Lib.hid (HW5.out.keep hb6)
        have HBE : Hid (Blk w6 gE 35 (entP q).toArray) := Lib.hid (by rw [← HE.out]; exact hB6)
        have HFE6 : Hid (Far m F gE) := Lib.hid (CK.far_new HW5.out.st.dk (fun x hx => (HK5.out.far x hx).2) (by omega))
        clear hB6 hb6 hs6 hsz1 hsz2 hone HE hgE HK5 HW5
        have HBR := Lib.hid (kc_broken HK6.out)
        obtain ⟨b0, hb0⟩ : ∃ b, b = brkO co := ⟨_, rfl⟩
        rw [← hb0] at HBR
        have HB0 := Lib.hid hb0
        clear hb0
        go_wp2_with fail
        refine HBR.out.mono ?_
        rintro e wq ⟨rfl, hwq⟩
        rw [hwq]
        clear hwq wq HBR
        have hre := HBE.out.range
        rw [List.toList_toArray] at hre
        have HIN := Lib.hid (kc_insert q HK6.out HW6.out HQ.out hk40)
        go_wp2_with (refine ld 35 _ rfl rfl rfl hre Tryz.underlying35 rfl HQI.out ?_)
        refine HIN.out.mono ?_
        rintro e w7 ⟨a, m7, d7, co7, rfl, hg7, hct7, hkb7, hcase⟩
        have HG7 := Lib.hid hg7
        have HW7 := Lib.hid hkb7
        have HBE7 := Lib.hid (HBE.out.ct hct7 HFE6.out)
        clear hre HIN hg7 hct7 hkb7 HBE HFE6 HK6 HW6
        have hre := HBE7.out.range
        rw [List.toList_toArray] at hre
        rcases hcase with ⟨rfl, hM, hkc7⟩ | ⟨hne, hbf, hbt, hM, hkc7⟩ | ⟨hne, hbb, hkc7⟩
        · have HK7 := Lib.hid hkc7
          have HPU := Lib.hid (ref_put_own vs S q w7 HW7.out.s.sn HW7.out.wl.ok (by have := HW7.out.sl; omega) HQ.out)
          have HM := Lib.hid hM
          clear hkc7 hM
          go_wp2_with (refine ld 35 _ rfl rfl rfl hre Tryz.underlying35 rfl HQI.out ?_)
          refine HPU.out.mono ?_
          rintro e w8 ⟨v8, rfl, hs8, hb8, hl8⟩
          have HN8 : Hid (KR w2 w8 m.g N (k + 1) now cv v8 vm) := Lib.hid (by
            have hw := HW7.out.keep hb8
            have hkk := HK7.out.keep hb8
            have hM := HM.out
            have hpl := refPut_len S q
            exact ⟨m7, d7, F, (refPut S q).1, none, co7, hkk, ⟨hw.st, hw.rm, hw.len, ⟨hs8, fun b e => (hl8 b e).elim (fun h => hw.s.nf b h) (fun h => ⟨CK.far_new HW7.out.st.dk (fun x hx => (HK7.out.far x hx).2) h.1, h.2⟩)⟩, by rw [← hM]; exact hw.m, hw.wl.put HQ.out, by omega, by rw [← hM]; exact hw.mo⟩, HG7.out, hnow0, by omega⟩)
          clear hs8 hb8 hl8
          go_wp2_with fail
          exact ⟨⟨k + 1, now, _, _, _, rfl, rfl, rfl, rfl, by omega, by go_num, HN8⟩, by simp [intOf]; omega⟩
        · have HK7 := Lib.hid hkc7
          have HBR := Lib.hid (kc_broken HK7.out)
          rw [hbt] at HBR
          obtain rfl : b0 = false := HB0.out.trans hbf
          have hae : (a == 10) = false := by simpa using hne
          have HM := Lib.hid hM
          clear hkc7 hM hne hbf hbt
          go_wp2_with fail
          refine HBR.out.mono ?_
          rintro e wq ⟨rfl, hwq⟩
          rw [hwq]
          clear hwq wq HBR
          have HLI := HQL.out
          go_wp2_with (first
            | (refine ld 35 _ rfl rfl rfl hre Tryz.underlying35 rfl HQI.out ?_)
            | (refine lit1L tEnt _ rfl rfl (by rfl) HLI (by omega) ?_))
          have HN8 : Hid (KR w2 (w7.alloc (.cells (entP q).toArray 35)) m.g N (k + 1) now cv vs (.slice (some ⟨w7.heap.size, 0, none⟩) 1 1)) := Lib.hid (by
            have hb8 : Below w7.heap.size w7 (w7.alloc (.cells (entP q).toArray 35)) := bel1 _ _
            have hw := HW7.out.keep hb8
            have hkk := HK7.out.keep hb8
            have hnew : Sn (w7.alloc (.cells (entP q).toArray 35)) 33 (.slice (some ⟨w7.heap.size, 0, none⟩) 1 1) [q].length ([q].flatMap entP) := by
              have := Sn.new w7 (entP q).toArray 35 33 1 (by simp [HQL.out])
              rw [List.flatMap_singleton]
              exact this
            exact ⟨m7, d7, F, S, some q, co7, hkk, ⟨hw.st, hw.rm, hw.len, hw.s, VF.new (es := [q]) HW7.out.st.dk (fun x hx => (HK7.out.far x hx).2) hnew (fun b e => by injection e with e; subst e; simp), hw.wl, hw.sl, fun p hp => by rw [List.mem_singleton.1 hp]; exact HQ.out⟩, HG7.out, hnow0, by omega⟩)
          exact ⟨⟨k + 1, now, _, _, _, rfl, rfl, rfl, rfl, by omega, by go_num, HN8⟩, by simp [intOf]; omega⟩
        · have HK7 := Lib.hid hkc7
          have HN7 : Hid (KR w2 w7 m.g N (k + 1) now cv vs vm) := Lib.hid ⟨m7, d7, F, S, M, co7, HK7.out, HW7.out, HG7.out, hnow0, by omega⟩
          have hae : (a == 10) = false := by simpa using hne
          have HBR := Lib.hid (kc_broken HK7.out)
          rw [← HB0.out] at hbb
          clear hkc7 hne
          cases b0 with
          | true =>
            go_wp2_with fail
            exact ⟨⟨k + 1, now, _, _, _, rfl, rfl, rfl, rfl, by omega, by go_num, HN7⟩, by simp [intOf]; omega⟩
          | false =>
            have hb1 : brkO co7 = false := by rcases hbb with h | h; (cases h); exact h
            rw [hb1] at HBR
            clear hbb hb1
            go_wp2_with fail
            refine HBR.out.mono ?_
            rintro e wq ⟨rfl, hwq⟩
            rw [hwq]
            clear hwq wq HBR
            go_wp2_with fail
            exact ⟨⟨k + 1, now, _, _, _, rfl, rfl, rfl, rfl, by omega, by go_num, HN7⟩, by simp [intOf]; omega⟩
      rcases Bool.eq_false_or_eq_true (o.kind == 1) with t1 | t1
      · have HCM := Lib.hid (kc_compact HK4.out HW4.out hk40)
        go_wp2_with fail
        refine HCM.out.mono ?_
        rintro e w5 ⟨a, m5, d5, co5, rfl, hg5, _, hkb5, hkc5⟩
        have HN5 : Hid (KR w2 w5 m.g N (k + 1) now cv vs vm) := Lib.hid ⟨m5, d5, F, S, M, co5, hkc5, hkb5, hg5, hnow0, by omega⟩
        clear hg5 hkb5 hkc5 HCM
        go_wp2_with fail
        exact ⟨⟨k + 1, now, _, _, _, rfl, rfl, rfl, rfl, by omega, by go_num, HN5⟩, by simp [intOf]; omega⟩
      rcases Bool.eq_false_or_eq_true (o.kind == 3) with t3 | t3
      · have HN5 : Hid (KR w2 w4 m.g N (k + 1) (now + o.n) cv vs vm) := Lib.hid ⟨m, d, F, S, M, co, (HK4.out.late (by omega)).more, HW4.out.more, rfl, by omega, by omega⟩
        have hta : -9223372036854775808 ≤ now + o.n := by omega
        have htb : now + o.n ≤ 9223372036854775807 := by omega
        go_wp2_with fail
        exact ⟨⟨k + 1, now + o.n, _, _, _, rfl, rfl, rfl, rfl, by omega, by go_num, HN5⟩, by simp [intOf]; omega⟩
      rcases Bool.eq_false_or_eq_true (o.kind == 4) with t4 | t4
      · have HFL := Lib.hid (disk_fail o.n w4 m d HW4.out.st.dk (by omega) (by omega))
        go_wp2_with fail
        refine HFL.out.mono ?_
        rintro e w5 ⟨rfl, m5, hk5, ht5⟩
        have hbd := plan_bd d o.n []
        have HN5 : Hid (KR w2 w5 m.g N (k + 1) now cv vs vm) := Lib.hid ⟨m5, _, F, S, M, co, (HK4.out.disk hk5 ht5 hbd.1.2 (fun P h => h.pF _) (fun P L es h => h.pF _)).more, HW4.out.disk hk5 ht5 hbd.1.2 (by have := hbd.1.1; omega), ht5.g, hnow0, by omega⟩
        clear hk5 ht5 HFL hbd
        go_wp2_with fail
        exact ⟨⟨k + 1, now, _, _, _, rfl, rfl, rfl, rfl, by omega, by go_num, HN5⟩, by simp [intOf]; omega⟩
      rcases Bool.eq_false_or_eq_true (o.kind == 5) with t5 | t5
      · have HCA := Lib.hid (disk_crashAt o.n (.slice Ac o.cuts.length nc) o.cuts w4 m d HW4.out.st.dk (by rw [← HEC.out]; exact HO.out.cuts.below (bstep HBW.out HB4.out)) (by omega) (by omega) (by omega))
        go_wp2_with fail
        refine HCA.out.mono ?_
        rintro e w5 ⟨rfl, m5, hk5, ht5⟩
        have hbd := plan_bd d o.n o.cuts
        have HN5 : Hid (KR w2 w5 m.g N (k + 1) now cv vs vm) := Lib.hid ⟨m5, _, F, S, M, co, (HK4.out.disk hk5 ht5 hbd.2.2 (fun P h => h.pC _ _) (fun P L es h => h.pC _ _)).more, HW4.out.disk hk5 ht5 hbd.2.2 (by have := hbd.2.1; omega), ht5.g, hnow0, by omega⟩
        clear hk5 ht5 HCA hbd
        go_wp2_with fail
        exact ⟨⟨k + 1, now, _, _, _, rfl, rfl, rfl, rfl, by omega, by go_num, HN5⟩, by simp [intOf]; omega⟩
      rcases Bool.eq_false_or_eq_true (o.kind == 6) with t6 | t6
      · have HCR := Lib.hid (disk_crash o.cuts Ac nc w4 m d HW4.out.st.dk (by rw [← HEC.out]; exact HO.out.cuts.below (bstep HBW.out HB4.out)) (by omega))
        go_wp2_with fail
        refine HCR.out.mono ?_
        rintro e w5 ⟨rfl, m5, hk5, ht5⟩
        have hcl : (crashD d o.cuts).sec.length = d.sec.length := crashL_len _ _ _
        have hcr : (crashD d o.cuts).room ≤ d.room + 200 := by show d.room ≤ _; omega
        have HN5 : Hid (KR w2 w5 m.g N (k + 1) now cv vs vm) := Lib.hid ⟨m5, _, F, S, M, co, (HK4.out.disk hk5 ht5 hcl (fun P h => h.crash HW4.out.st.dk.ok (by omega) _) (fun P L es h => h.crash _)).more, HW4.out.disk hk5 ht5 hcl hcr, ht5.g, hnow0, by omega⟩
        clear hk5 ht5 HCR hcl hcr
        go_wp2_with fail
        exact ⟨⟨k + 1, now, _, _, _, rfl, rfl, rfl, rfl, by omega, by go_num, HN5⟩, by simp [intOf]; omega⟩
      have HST := Lib.hid (disk_start w4 m d HW4.out.st.dk)
      have hb4 := HB4.out
      clear hb4
      go_wp2_with fail
      refine HST.out.mono ?_
      rintro e w5 ⟨rfl, hk5, ht5⟩
      have HK5 : Hid (KC w2 w5 m (startD d) k N now cv F S M co) := Lib.hid (HK4.out.disk hk5 ht5 rfl (fun P h => h.startC) (fun P L es h => h.disk rfl rfl))
      have HW5 : Hid (KB w2 w5 m (startD d) k N F vs vm S M) := Lib.hid (by
        have h := HW4.out.disk hk5 ht5 rfl (by show d.room ≤ _; omega)
        exact ⟨h.st, hrm, h.len, h.s, h.m, h.wl, HW4.out.sl, h.mo⟩)
      have HOP := Lib.hid (kc_open HK5.out HW5.out hk40 ⟨hN1.1, by omega⟩ ⟨by omega, by omega⟩)
      clear hk5 ht5 HST c0 c1 c2 c3 cc HK4 HW4 HK5 HW5
      go_wp2_with fail
      refine HOP.out.mono ?_
      rintro e w6 ⟨x, pc, m6, d6, rfl, hg6, hno, hyes⟩
      have HG6 := Lib.hid hg6
      clear hg6 HOP
      cases x with
      | some y =>
        obtain ⟨hkb6, hkc6⟩ := hno (by simp)
        obtain ⟨ti, ui, hv⟩ := valE_form y
        have hnt := neq_nil ti ui
        rw [hv]
        have HN6 : Hid (KR w2 w6 m.g N (k + 1) now pc vs vm) := Lib.hid ⟨m6, d6, [], S, M, none, hkc6, hkb6, HG6.out, hnow0, by omega⟩
        clear hno hyes hkb6 hkc6 hv
        go_wp2_with fail
        exact ⟨⟨k + 1, now, _, _, _, rfl, rfl, rfl, rfl, by omega, by go_num, HN6⟩, by simp [intOf]; omega⟩
      | none =>
        obtain ⟨F6, C6, es, hpc, hok6, hel, hCE, hkb6, hkc6⟩ := hyes rfl
        have hvn : valE none = .nilIface := rfl
        rw [hvn]
        have hnilF := eq_nilL
        obtain ⟨G, hG⟩ : ∃ G, G = liveL (refOf es) now := ⟨_, rfl⟩
        have hGE : liveL C6.E now = G := by rw [hCE, hG, liveL_live _ (Int.le_refl _)]
        have hGl : G.length ≤ 20 := by have := liveL_len (refOf es) now; have := refOf_len es; rw [hG]; omega
        have hGw : WL G := by rw [hG]; exact (WL.of hok6).live now
        unfold PC at hpc
        rw [← hG] at hpc hkc6
        have HPC := Lib.hid hpc
        have HGW := Lib.hid hGw
        have HW6 := Lib.hid hkb6
        have HK6 := Lib.hid hkc6
        have HLV := Lib.hid (kc_live hkc6 (by omega))
        rw [hGE] at HLV
        clear hno hyes hpc hok6 hel hCE hkb6 hkc6 hvn hG hGE hGw
        go_wp2_with fail
        refine HLV.out.mono ?_
        rintro e w7 ⟨v7, rfl, hs7, hb7, hl7⟩
        have HS7 := Lib.hid hs7
        have HB7 := Lib.hid hb7
        have HL7 := Lib.hid hl7
        have HW7 := Lib.hid (HW6.out.keep hb7)
        have HLS := Lib.hid (ref_live_any vs S now w7 HW7.out.s.sn HW7.out.wl.ok (by omega))
        clear hs7 hb7 hl7 HLV
        go_wp2_with fail
        refine HLS.out.mono ?_
        rintro e w8 ⟨v8, rfl, hs8, hb8⟩
        have HW8 := Lib.hid (HW7.out.keep hb8)
        have HS8 := Lib.hid (HS7.out.below hb8)
        have HB8 := Lib.hid (bstep HB7.out hb8)
        have hsm := same_any v7 v8 G (liveL S now) w8 HS8.out HGW.out.ok hs8 (HW8.out.wl.live now).ok (by omega) (by have := liveL_len S now; omega)
        obtain ⟨wo, hwo⟩ : ∃ b, b = decide (G = liveL S now) := ⟨_, rfl⟩
        rw [← hwo] at hsm
        have HSM := Lib.hid hsm
        have HWO := Lib.hid hwo
        clear hs8 hb8 HLS hsm hwo
        go_wp2_with fail
        refine HSM.out.mono ?_
        rintro e w9 ⟨rfl, hb9⟩
        have HW9 := Lib.hid (HW8.out.keep hb9)
        have HS9 := Lib.hid (HS8.out.below hb9)
        have HB9 := Lib.hid (bstep HB8.out hb9)
        clear hb9 HSM HW7 HW8 HS7 HS8 HB7 HB8
        have hbl9 : Below w9.heap.size w9 (w9.alloc (.cells #[] 35)) := bel1 _ _
        have HBL9 := Lib.hid hbl9
        have HOW : Hid ((w9.alloc (.cells #[] 35)).ownsRow w9.heap.size 35 33 (.slice (some ⟨w9.heap.size, 0, none⟩) 0 0) 0 []) := Lib.hid (own_new w9 #[] 35 33 0 w9.heap.size w9.heap.size (Nat.le_refl _) rfl (by decide) rfl)
        have HMW := Lib.hid (HW9.out.s.sn.below hbl9)
        have HLE : Hid (w9.heap.size ≤ (w9.alloc (.cells #[] 35)).heap.size) := Lib.hid hbl9.size
        have HON : Hid (∀ u ∈ S.flatMap entP, u.oneCell' = true) := Lib.hid (fun u hu => by obtain ⟨q, _, hu⟩ := List.mem_flatMap.1 hu; exact entP_one q u hu)
        clear hbl9
        obtain ⟨As, cs, rfl⟩ := HW9.out.s.sn.slc21
        go_upto_region 22 with (at_builtin; refine app tEnt (.tmp 66) (.tmp 67) rfl rfl (by rfl) HOW.out (by rfl) HMW.out HON.out (by unfold maxLen; omega) (by omega) HLE.out ?_; intro v10 w10 hown hgrow hblk; rw [List.nil_append, Nat.zero_add] at hown; have HO10 := Lib.hid hown; have HG10 := Lib.hid hgrow; clear hown hgrow hblk)
        have HB10 : Hid (Below w9.heap.size w9 w10) := Lib.hid (HBL9.out.grown HG10.out HBL9.out.size (fun b e => (HOW.out.lt b e).1))
        have HW10 := Lib.hid (HW9.out.keep HB10.out)
        have HS10 := Lib.hid (Sn.own HO10.out)
        have HX10 := Lib.hid (HS9.out.below HB10.out)
        have HBB := Lib.hid (bstep HB9.out HB10.out)
        clear HBL9 HOW HMW HLE HON HO10 HG10 HB10 HW9 HS9 HB9
        obtain ⟨ml, hml⟩ : ∃ x, x = M.toList.length := ⟨_, rfl⟩
        obtain ⟨Am, cm, hvm⟩ : ∃ A c, vm = .slice A ml c := by obtain ⟨A, c, e, _⟩ := HW10.out.m.sn; exact ⟨A, c, by rw [hml]; exact e⟩
        subst hvm
        have HML := Lib.hid hml
        have hml1 : ml ≤ 1 := by rw [hml]; cases M <;> simp
        clear hml
        go_upto_if 71 with fail
        go_cut [19] from 72 to 79 (fun v wx => Hid (Sn wx 33 v (withS S M).length ((withS S M).flatMap entP)) ∧ Hid (Below w10.heap.size w10 wx))
        case first =>
          cases M with
          | none =>
            obtain rfl : ml = 0 := HML.out
            go_wp2_with fail
            go_meet
            exact ⟨HS10, Lib.hid (Below.refl _ _)⟩
          | some q =>
            have hq : EntOk q := HW10.out.mo q (by simp)
            obtain rfl : ml = 1 := HML.out
            obtain ⟨Am', cm', hvm, _, _, hx⟩ := HW10.out.m.sn
            obtain ⟨bq, oq, rfl, hcell⟩ := hx (by simp)
            obtain rfl : Am = some ⟨bq, oq, none⟩ := by injection hvm
            have hrq : w10.rangeAt bq oq (entP q) := fun j u hj => hcell j u (by rw [show (some q).toList = [q] from rfl, List.flatMap_singleton]; exact hj)
            have HRQ := Lib.hid hrq
            have hql := entP_length q hq
            have HQI : Hid ((Tryz.prog.info? 35).map (·.size) = some (entP q).length) := Lib.hid (by rw [hql]; kernel_rfl)
            have HPU := Lib.hid (ref_put_any v10 S q w10 HS10.out HW10.out.wl.ok (by omega) hq)
            clear hx hcell hrq hql
            go_wp2_with (refine ld 35 _ rfl rfl rfl HRQ.out Tryz.underlying35 rfl HQI.out ?_)
            refine HPU.out.mono ?_
            rintro e w11 ⟨v11, rfl, hs11, hb11⟩
            have HS11 := Lib.hid hs11
            have HB11 := Lib.hid hb11
            clear hs11 hb11
            go_wp2_with fail
            go_meet
            exact ⟨HS11, HB11⟩
        case rest =>
          rename World => w11
          obtain ⟨HS11, HB11⟩ := hcut
          have HW11 := Lib.hid (HW10.out.keep HB11.out)
          have HX11 := Lib.hid (HX10.out.below HB11.out)
          have HBC := Lib.hid (bstep HBB.out HB11.out)
          have hwS : WL (withS S M) := by
            cases M with
            | none => exact HW11.out.wl
            | some q => exact HW11.out.wl.put (HW11.out.mo q (by simp))
          have hwl : (withS S M).length ≤ 100 := by
            cases M with
            | none => show S.length ≤ _; omega
            | some q => have := refPut_len S q; show (refPut S q).1.length ≤ _; omega
          have HWS := Lib.hid hwS
          clear hwS HW10 HS10 HX10 HBB
          go_upto_region 24 with fail
          go_cut [89] from 80 to 89 (fun v wx => v = .bool false ∧ Hid (Below w11.heap.size w11 wx))
          case first =>
            cases wo with
            | true =>
              go_wp2_with fail
              go_meet
              exact ⟨rfl, Lib.hid (Below.refl _ _)⟩
            | false =>
              have hGW : G = liveL (withS S M) now := HPC.out.resolve_left (fun h => by have := HWO.out; rw [decide_eq_true h] at this; cases this)
              have HLW := Lib.hid (ref_live_any _ (withS S M) now w11 HS11.out HWS.out.ok (by omega))
              have HGW2 := Lib.hid hGW
              clear hGW
              go_wp2_with fail
              refine HLW.out.mono ?_
              rintro e w12 ⟨v12, rfl, hs12, hb12⟩
              have hsm := same_any v7 v12 G (liveL (withS S M) now) w12 (HX11.out.below hb12) HGW.out.ok hs12 (HWS.out.live now).ok (by omega) (by have := liveL_len (withS S M) now; omega)
              rw [decide_eq_true HGW2.out] at hsm
              have HSM := Lib.hid hsm
              have HB12 := Lib.hid hb12
              clear hs12 hb12 hsm HLW
              go_wp2_with fail
              refine HSM.out.mono ?_
              rintro e w13 ⟨rfl, hb13⟩
              have HB13 := Lib.hid (bstep HB12.out hb13)
              clear hb13
              go_wp2_with fail
              go_meet
              exact ⟨rfl, HB13⟩
          case rest =>
            rename World => w14
            obtain ⟨rfl, HB14⟩ := hcut
            have HX14 := Lib.hid (HX11.out.below HB14.out)
            have HW14 := Lib.hid (HW11.out.keep HB14.out)
            have HK14 := Lib.hid ((HK6.out.keep HBC.out).keep HB14.out)
            clear HX11 HW11 HS11 HPC HWO HB11 HBC HB14 HWS hwl HK6 HW6
            have hbl14 : Below w14.heap.size w14 (w14.alloc (.cells #[] 35)) := bel1 _ _
            have HBL := Lib.hid hbl14
            have HOW : Hid ((w14.alloc (.cells #[] 35)).ownsRow w14.heap.size 35 33 (.slice (some ⟨w14.heap.size, 0, none⟩) 0 0) 0 []) := Lib.hid (own_new w14 #[] 35 33 0 w14.heap.size w14.heap.size (Nat.le_refl _) rfl (by decide) rfl)
            have HMW := Lib.hid (HX14.out.below hbl14)
            have HLE : Hid (w14.heap.size ≤ (w14.alloc (.cells #[] 35)).heap.size) := Lib.hid hbl14.size
            have HON : Hid (∀ u ∈ G.flatMap entP, u.oneCell' = true) := Lib.hid (fun u hu => by obtain ⟨q, _, hu⟩ := List.mem_flatMap.1 hu; exact entP_one q u hu)
            clear hbl14
            obtain ⟨A7, c7, rfl⟩ := HX14.out.slc21
            go_upto_region 12 with (at_builtin; refine app tEnt (.tmp 90) (.tmp 91) rfl rfl (by rfl) HOW.out (by rfl) HMW.out HON.out (by unfold maxLen; omega) (by omega) HLE.out ?_; intro v15 w15 hown hgrow hblk; rw [List.nil_append, Nat.zero_add] at hown; have HO15 := Lib.hid hown; have HG15 := Lib.hid hgrow; clear hown hgrow hblk)
            have HB15 : Hid (Below w14.heap.size w14 w15) := Lib.hid (HBL.out.grown HG15.out HBL.out.size (fun b e => (HOW.out.lt b e).1))
            have HN15 : Hid (KR w2 w15 m.g N (k + 1) now pc v15 (.slice none 0 0)) := Lib.hid (by
              have hw := HW14.out.keep HB15.out
              exact ⟨m6, d6, F6, G, none, some C6, HK14.out.keep HB15.out, ⟨hw.st, hw.rm, hw.len, VF.new HW14.out.st.dk (fun x hx => (HK14.out.far x hx).2) (Sn.own HO15.out) (fun b e => HO15.out.lt b e), VF.nil, HGW.out, by omega, fun q hq => by cases hq⟩, HG6.out, hnow0, by omega⟩)
            clear HW14 HK14
            go_wp2_with fail
            exact ⟨⟨k + 1, now, _, _, _, rfl, rfl, rfl, rfl, by omega, by go_num, HN15⟩, by simp [intOf]; omega⟩
    · obtain rfl : k = l.length := by omega
      have HBF := Lib.hid hbw
      clear hbw
      go_wp2_with fail
      go_ret
      exact ⟨rfl, HBF.out⟩
end Go.Proofs.YtombncedfleljaaGreat
