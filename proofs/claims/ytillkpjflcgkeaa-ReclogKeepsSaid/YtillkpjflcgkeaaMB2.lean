/- Parts: The law ReclogKeeps: its walk. -/
import Derived.Test.YtillkpjflcgkeaaMB1
import Derived.Test.YtillkpjflcgkeaaMA23
import Derived.Test.YtillkpjflcgkeaaMA1
import Derived.Test.YtillkpjflcgkeaaMA24
namespace Go.Proofs.Ytillkpjflcgkeaa
open Go.RowKit
attribute [local irreducible] wpQuiet wpAnyH
set_option linter.unusedSimpArgs false

theorem tEE : SlT Try.prog 43 31 1 24 := SlT.mk' Try.underlying43 (z := .slice none 0 0) (by kernel_rfl) rfl (by decide)
def opZ19 : Array Value := ([Value.int .i64 0, Value.int .i64 0, Value.int .u32 0] ++ (entC (List.replicate 32 0) 0 ++ [Value.slice none 0 0, Value.slice none 0 0])).toArray
theorem zeroOp19 : ∀ w, (zeroValue 47).run Try.prog w = .ok (.agg opZ19) w := fun w => by unfold opZ19; kernel_rfl
theorem opC19_all {w : World} {o : Op19} (ho : Op19Ok w o) : (opC19 o).toArray.all (·.oneCell') = true := by
  obtain ⟨Am, cm, em⟩ := ho.more.slc9
  obtain ⟨Ac, cc, ec⟩ := ho.cuts.slc9
  rw [Array.all_eq_true_iff_forall_mem]
  intro u hu
  unfold opC19 at hu
  rw [em, ec] at hu
  simp only [List.mem_toArray, List.mem_append, List.mem_cons, List.not_mem_nil, or_false] at hu
  rcases hu with (rfl | rfl | rfl) | hu | rfl | rfl
  · rfl
  · rfl
  · rfl
  · exact entP_all o.ent u hu
  · rfl
  · rfl
theorem one_slice {A : Option Addr} {n c : Nat} : ∀ u ∈ [Value.slice A n c], u.oneCell' = true := fun u hu => by rw [List.mem_singleton.1 hu]; rfl
theorem fill_oneV (Z : Array Value) (hZ : Z.size = 1) (A : Option Addr) (n c : Nat) : Instr.fill (fun i => some (i * 1, 1)) Z [(0, .slice A n c)] = some #[.slice A n c] := by
  obtain ⟨l⟩ := Z
  match l, hZ with
  | [z], _ => rfl
theorem run_lit1V {P : Program} {t e bytes : Nat} (T : SlT P t e 1 bytes) (A : Option Addr) (n c : Nat) (w : World) : (Instr.buildSlice t 1 #[(0, .slice A n c)]).run P w = .ok (.slice (some ⟨w.heap.size, 0, none⟩) 1 1) (w.alloc (.cells #[.slice A n c] e)) := by
  obtain ⟨i, z, hi, hz, hsi, hby, hzs⟩ := T.hi
  refine run_buildSlice w t e 1 _ #[.slice A n c] i z T.ht hi hz (by rw [hsi]; omega) (by rw [hsi]; omega) ?_
  rw [hsi]
  exact fill_oneV _ (by simp) A n c
theorem lit1V {P : Program} {ops : Array Oper} {rest : List Oper} {o : Oper} {a : Act} {w : World} {Q : Exit → Act → World → Prop} {t e bytes : Nat} (T : SlT P t e 1 bytes) (x : Operand) (ho : o.op = .buildSlice t 1 #[(0, x)]) (hw : Region.wanted o (yielded ops a.tmps) = true)
    {A : Option Addr} {n c : Nat} (hx : a.eval x = .slice A n c)
    (h : wpList P ops Q rest (a.put o.dst (.slice (some ⟨w.heap.size, 0, none⟩) 1 1)) (w.alloc (.cells #[.slice A n c] e))) : wpList P ops Q (o :: rest) a w :=
  wpList_step fun K hK => by
    rw [if_pos hw]
    unfold Oper.wp
    have hrun : (execOp a.eval o).run P w = .ok (.value (.slice (some ⟨w.heap.size, 0, none⟩) 1 1)) (w.alloc (.cells #[.slice A n c] e)) := by
      have hrun := run_lit1V T A n c w
      unfold execOp
      simp only [ho, Sem.run_bind, List.map_toArray, List.map_cons, List.map_nil, hx, hrun, Result.andThen_ok]
      rfl
    rw [hrun, Oper.upon_value]
    exact hK _ _ h
section
variable {w0 wr wx w' : World} {m m' : DiskM} {d : DiskD} {k : Nat} {vn vm lv : Value} {lo row : Option Nat} {nowL : List Ent2} {mayL : List (List Ent2)} {mv : List Value} {gO gl : Nat} {t : TypeId} {cs : Array Value}
/-- A box that the law has made stands behind an operation on the log. -/
theorem KI.box (h : KI w0 wr m d k vn vm lv lo nowL mayL mv) (hb : Blk wx gO t cs) (hg : wr.heap.size ≤ gO) (ht : LT gl wx m w' m') (hl : lo = some gl ∨ wx.heap.size ≤ gl) : Blk w' gO t cs :=
  (ht.fo.block gO hb.lt (fun hm => by
    rcases List.mem_cons.1 hm with h1 | h1
    · subst h1
      rcases hl with h2 | h2
      · have := h.lg.lo_lt _ h2; omega
      · have := hb.lt; omega
    · have := h.kb.st.dk.foot_lt _ h1; omega)).trans hb
theorem LG.grown (h : LG w0 wr m d lv lo k nowL mayL) (hg : wr.grownBy wx row) (ha : ∀ b, row = some b → Apart m b ∧ lo ≠ some b) : LG w0 wx m d lv lo k nowL mayL :=
  h.imp id (fun ⟨gl, L, h1, h2, h3, h4, h5⟩ => ⟨gl, L, h1, h2, h3, ⟨h4.dk.grown hg (fun b e => (ha b e).1), (hg.block gl h4.blk.lt (fun e => (ha gl e.symm).2 h2)).trans h4.blk, h4.ap, h4.ok⟩, h5⟩)
theorem LG.cmp (h : LG w0 wr m d lv lo k nowL mayL) : ∃ b : Bool, (∀ w, (binOp .neq 30 lv (.pointer none)).run Try.prog w = .ok (.bool b) w) ∧ (∀ t p q w, (eqGuard .neq t p q lv (.pointer none)).run Try.prog w = .ok () w) ∧ (b = true → lv ≠ .pointer none) ∧ (b = false → lv = .pointer none) := by
  rcases h with ⟨h1, _⟩ | ⟨gl, _, h1, _⟩
  · subst h1
    exact ⟨false, fun w => by kernel_rfl, fun _ _ _ _ => rfl, (fun e => by cases e), fun _ => rfl⟩
  · subst h1
    exact ⟨true, fun w => by kernel_rfl, fun _ _ _ _ => rfl, (fun _ e => by cases e), fun e => by cases e⟩
end
theorem KI.start {w0 wr wx : World} {m : DiskM} {d : DiskD} {k : Nat} {vn vm lv : Value} {lo : Option Nat} {nowL : List Ent2} {mayL : List (List Ent2)} {mv : List Value} (h : KI w0 wr m d k vn vm lv lo nowL mayL mv) (hk : DK wx m (startD d)) (ht : DT wr m wx m) : KI w0 wx m (startD d) k vn vm lv lo nowL mayL mv :=
  have q := h.kb.dt hk ht (by show d.room ≤ _; omega)
  ⟨⟨q.st, h.kb.rm, q.cb, q.now, q.own, q.mnf, q.ml, q.me, h.kb.mle⟩, h.lg.disk hk ht rfl (fun h => h.start) (fun L h => h.disk rfl rfl)⟩
/-- The round's relation. -/
def KR (w0 wr : World) (g9 k : Nat) (vn vm lv : Value) : Prop := ∃ m d lo nowL mayL mv, KI w0 wr m d k vn vm lv lo nowL mayL mv ∧ m.g = g9 ∧ d.sec.length = 10 ∧ nowL.length ≤ 4

set_option maxRecDepth 100000 in
set_option maxHeartbeats 40000000 in
theorem keeps_any (A : Option Addr) (cap : Nat) (l : List Op19) (w : World) (hs : Sn w 38 (.slice A l.length cap) l.length (l.flatMap opC19)) (hok : ∀ o ∈ l, Op19Ok w o) (hl : l.length ≤ 9223372036854775807) :
    Calls Try.prog 4 #[.slice A l.length cap] w fun e w' => e = .returned (.bool true) ∧ Below w.heap.size w w' := by
  have HS := Lib.hid hs
  have HOK := Lib.hid hok
  clear hs hok
  go_enter Try.func4, Try.ntmps4
  go_wp2_with fail
  refine (awake19 w).mono ?_
  rintro e w1 ⟨rfl, hb1⟩
  have HF := Lib.hid (few19 A cap l w1 (HS.out.below hb1) (fun o ho => (HOK.out o ho).keep hb1) hl)
  have HB1 := Lib.hid hb1
  clear hb1
  go_wp2_with fail
  refine HF.out.mono ?_
  rintro e w2 ⟨fb, rfl, hb2, hfw⟩
  have HB2 := Lib.hid (bstep HB1.out hb2)
  have HFW := Lib.hid hfw
  clear hb2 HF hfw HB1
  cases fb with
  | false =>
    go_wp2_with fail
    refine (awake19 w2).mono ?_
    rintro e w3 ⟨rfl, hb3⟩
    go_wp2_with fail
    go_ret
    exact ⟨rfl, bstep HB2.out hb3⟩
  | true =>
  have HFE := Lib.hid (HFW.out rfl)
  have hl40 := HFE.out.1
  clear HFW
  have HN : Hid (Calls Try.prog 7 #[.int .i64 10] w2 fun e w' => ∃ m, e = .returned (.pointer (some ⟨m.g, 0, none⟩)) ∧ DK w' m (newD 10) ∧ Below w2.heap.size w2 w' ∧ ∀ k ∈ foot m, w2.heap.size ≤ k) := Lib.hid (disk_new 10 w2 (by omega) (by omega))
  go_wp2_with fail
  refine HN.out.mono ?_
  rintro e w3 ⟨m3, rfl, hk3, hb3, hf3⟩
  have HK0 : Hid (KR w2 w3 m3.g 0 (.slice none 0 0) (.slice none 0 0) (.pointer none)) := Lib.hid ⟨m3, newD 10, none, [], [], [], ⟨⟨⟨hk3, hf3, hb3⟩, Nat.zero_le _, CB.new hk3, ⟨⟨none, 0, rfl, Nat.le_refl _, by simp, fun h => absurd h (by simp)⟩, (fun h => absurd h (by simp)), (fun q hq => by cases hq), by simp⟩, World.ownsRow_nil _ _ _ _, (fun b e => by cases e), rfl, (fun i hi => absurd hi (Nat.not_lt_zero i)), Nat.zero_le _⟩, .inl ⟨rfl, rfl, sb_new 10 (by omega) (by unfold PK; simp)⟩⟩, rfl, List.length_replicate, Nat.zero_le _⟩
  obtain ⟨g9, hg9⟩ : ∃ g, g = m3.g := ⟨_, rfl⟩
  rw [← hg9] at HK0 ⊢
  clear hk3 hb3 hf3 HN hg9
  have hnilT := eq_nilT
  have hnilF := eq_nilL
  go_wp2_with fail
  go_loopw [4, 5, 6, 7] (fun v1 v2 v3 i wr => ∃ (k : Nat) (vn vm lv : Value), vn = v1 ∧ vm = v2 ∧ lv = v3 ∧ k ≤ l.length ∧ i = .int .i64 k ∧ Hid (KR w2 wr g9 k vn vm lv)) (fun _ _ _ i _ => l.length - (intOf i).toNat)
  case atStart => exact ⟨0, _, _, _, rfl, rfl, rfl, Nat.zero_le _, rfl, HK0⟩
  case round =>
    clear HK0
    obtain ⟨k, vn, vm, lv, rfl, rfl, rfl, hk, rfl, HR⟩ := hrel
    obtain ⟨m, d, lo, nowL, mayL, mv, hki, rfl, hsl, hn4⟩ := HR.out
    have HKI := Lib.hid hki
    have hbw : Below w.heap.size w wr := bstep HB2.out hki.kb.st.bel
    clear HR
    rcases Nat.lt_or_ge k l.length with hlt | hge
    · have ho := HOK.out _ (List.getElem_mem hlt)
      obtain ⟨b, off, hA, hr⟩ := op_at19 (HS.out.below hbw) (fun o ho => opC19_length o (HOK.out o ho)) k hlt
      subst hA
      have hfe := HFE.out.2 _ (List.getElem_mem hlt)
      obtain ⟨o, hoe⟩ : ∃ o, o = l[k] := ⟨_, rfl⟩
      rw [← hoe] at ho hr hfe
      clear hoe
      have h38 := opC19_length o ho
      have hone := opC19_all ho
      have hsz1 : (Try.prog.info? 47).map (·.size) = some (opC19 o).toArray.size := by rw [List.size_toArray]; exact opI19 o h38
      have hsz2 : opZ19.size = (opC19 o).toArray.size := by
        have h : opZ19.size = 38 := by kernel_rfl
        rw [h, List.size_toArray, h38]
      have HO := Lib.hid ho
      have HFO := Lib.hid hfe
      have hi0 : (0 : Int) ≤ k := by omega
      have hi1 : (k : Int) < l.length := by omega
      have HBW := Lib.hid hbw
      clear ho hfe hki
      go_upto_region 13 with (first
        | (refine ld 47 _ rfl rfl rfl hr Try.underlying47 rfl (opI19 o h38) ?_)
        | (refine al 47 opZ19 rfl rfl zeroOp19 ?_)
        | (refine stNew (cells := (opC19 o).toArray) 47 (.tmp 8) (.tmp 37) rfl rfl (by rfl) (by rfl) hsz1 hsz2 hone ?_; intro w4 hB4 hb4 hs4))
      obtain ⟨gO, hgO⟩ : ∃ gO, gO = wr.heap.size := ⟨_, rfl⟩
      rw [← hgO] at hB4 ⊢
      have HK4 := Lib.hid (HKI.out.keep hb4)
      have HBO : Hid (Blk w4 gO 47 (opC19 o).toArray) := Lib.hid hB4
      have HGO : Hid (gO = wr.heap.size) := Lib.hid hgO
      have HB4 : Hid (Below wr.heap.size wr w4) := Lib.hid hb4
      clear hr hb4 hs4 hgO hone hbw hsz1 hsz2
      obtain ⟨c0, c1, _, cE, cm, cc⟩ := op_cells19 HO.out.ent hB4
      clear hB4
      have hel := entP_length o.ent HO.out.ent
      have HEL := Lib.hid hel
      have hqi : (Try.prog.info? 25).map (·.size) = some (entP o.ent).length := by rw [hel]; kernel_rfl
      have HQI := Lib.hid hqi
      obtain ⟨Am, nm, em⟩ := HO.out.more.slc9
      obtain ⟨Ac, nc, ec⟩ := HO.out.cuts.slc9
      rw [em] at cm
      rw [ec] at cc
      have HEM := Lib.hid em
      have HEC := Lib.hid ec
      clear em ec
      have hk40 : k ≤ 40 := by omega
      have h64 : isI64 o.pos := HO.out.pos
      have p1 : -9223372036854775808 ≤ o.pos := h64.1
      have p2 : o.pos ≤ 9223372036854775807 := h64.2
      have hrm : d.room ≤ 60 * k := HKI.out.kb.rm
      clear h64 hel
      rcases Bool.eq_false_or_eq_true (o.kind == 0) with t0 | t0
      · have HEB0 : Hid (∀ W, Below w4.heap.size w4 W → W.rangeAt gO 3 (entP o.ent)) := Lib.hid (fun W hb => (op_cells19 HO.out.ent (HBO.out.keep hb)).2.2.2.1)
        go_upto_region 28 with fail
        go_cut [9] from 87 to 93 (fun v wx => ∃ (A9 : Option Addr) (c9 : Nat), v = .slice A9 (nowL.length + 1) c9 ∧ Hid (KI w2 wx m d k vn vm lv lo nowL mayL mv ∧ VE wx m lo vm.ownBlock (.slice A9 (nowL.length + 1) c9) (nowL ++ [o.ent]) ∧ Blk wx gO 47 (opC19 o).toArray))
        case first =>
          obtain ⟨wS, hwS⟩ : ∃ wS, wS = w4.drew := ⟨_, rfl⟩
          have hb4S : Below w4.heap.size w4 wS := by rw [hwS]; exact (Below.refl _ _).drew
          have HBS : Hid (Below wS.heap.size wS wS) := Lib.hid (Below.refl _ _)
          have HKS := Lib.hid (HK4.out.keep hb4S)
          have HEB : Hid (∀ W, Below wS.heap.size wS W → W.rangeAt gO 3 (entP o.ent)) := Lib.hid (fun W hb => HEB0.out W (bstep hb4S hb))
          have HOLD : Hid (∀ W, Below wS.heap.size wS W → Sn W 33 vn nowL.length (nowL.flatMap entP)) := Lib.hid (fun W hb => HKS.out.kb.now.sn.below hb)
          have HONE : Hid (∀ u ∈ nowL.flatMap entP, u.oneCell' = true) := Lib.hid (fun u hu => by obtain ⟨q, _, hu⟩ := List.mem_flatMap.1 hu; exact entP_all q u hu)
          have HM : Hid (∀ W, Below wS.heap.size wS W → Below wS.heap.size wS W) := Lib.hid (fun _ h => h)
          have HFIN : Hid (∀ W V, Below wS.heap.size wS W → W.ownsRow wS.heap.size 25 33 V (nowL.length + 1) (nowL.flatMap entP ++ entP o.ent) → (KI w2 W m d k vn vm lv lo nowL mayL mv ∧ VE W m lo vm.ownBlock V (nowL ++ [o.ent]) ∧ Blk W gO 47 (opC19 o).toArray)) := Lib.hid (fun W V hb ho => ⟨HKS.out.keep hb, VE.own (w := wS) HKS.out.kb.st.dk (Nat.le_refl _) (by rw [List.length_append, List.flatMap_append, List.flatMap_singleton]; exact ho) HKS.out.lg.lo_lt HKS.out.kb.mb_lt (fun q hq => (List.mem_append.1 hq).elim (HKS.out.kb.now.ok q) (fun h => by rw [List.mem_singleton.1 h]; exact HO.out.ent)) (by simp; omega), (HBO.out.keep hb4S).keep hb⟩)
          clear hb4S c0 c1 cE cm cc HEB0
          refine held_start 8 (fun w' => Below wS.heap.size wS w') (by kernel_rfl) (by kernel_rfl) (by rw [hwS]; exact Below.refl _ _) (fun hHeld => ?_)
          rw [← hwS] at hHeld ⊢
          clear hwS
          refine hMove 1 (Operand.tmp 4) (some 88) (vn) (by kernel_rfl) (by kernel_rfl) (by kernel_rfl) (by kernel_rfl) (by kernel_rfl) (fun _ _ _ h => h) (by exact rfl) hHeld ?_
          simp only [Act.put, List.setIfInBounds_toArray, List.set_cons_zero, List.set_cons_succ]
          refine hTake 3 (Op.fieldAddr 47 (Operand.tmp 8) 3) (some 90) (.pointer (some ⟨gO, 3, none⟩)) (by kernel_rfl) (by kernel_rfl) (by kernel_rfl) (by kernel_rfl) (by kernel_rfl) (fun _ _ _ h => h) (fun o ho wX hX => by unfold execOp; simp only [ho]; go_simp) hHeld ?_
          simp only [Act.put, List.setIfInBounds_toArray, List.set_cons_zero, List.set_cons_succ]
          refine hLoad 4 25 (Operand.tmp 90) (some 91) (cs := entP o.ent) (by kernel_rfl) (by kernel_rfl) (by kernel_rfl) (by kernel_rfl) (by kernel_rfl) (fun _ _ _ h => h) (by exact rfl) (fun _ hX => HEB.out _ hX) Try.underlying25 rfl HQI.out hHeld ?_
          simp only [Act.put, List.setIfInBounds_toArray, List.set_cons_zero, List.set_cons_succ]
          refine wpAnyH_ready (rs := [0, 5]) (by kernel_rfl) (by simp) ?_
          refine rStep 0 (Op.buildSlice 31 0 #[]) (some 87) (.slice (some ⟨wS.heap.size, 0, none⟩) 0 0) (wS.alloc (.cells #[] 25)) (by kernel_rfl) (by kernel_rfl) (fun o ho => by unfold execOp; simp only [ho]; go_simp) (HM.out _ (bstep HBS.out (bel1 _ _))) ?_ (rLit1M 5 tEnt (Operand.tmp 91) (some 92) (by kernel_rfl) (by kernel_rfl) (cs := entP o.ent) (by rfl) HEL.out (by decide) (HM.out _ (bstep HBS.out (bel1 _ _))) ?_ AllReadyH.nil)
          · simp only [Act.put, List.setIfInBounds_toArray, List.set_cons_zero, List.set_cons_succ]
            obtain ⟨wq1, hwq1⟩ : ∃ wq1, wq1 = wS.alloc (.cells #[] 25) := ⟨_, rfl⟩
            have hB1 : Below wS.heap.size wS wq1 := by rw [hwq1]; exact bel1 _ _
            have HB1 := Lib.hid (bstep HBS.out hB1)
            have HO1 : Hid (wq1.ownsRow wS.heap.size 25 33 (.slice (some ⟨wS.heap.size, 0, none⟩) 0 0) 0 []) := Lib.hid (by rw [hwq1]; exact own_new wS #[] 25 33 0 wS.heap.size _ HBS.out.size rfl (by decide) rfl)
            rw [← hwq1]
            clear hwq1 hB1
            refine wpAnyH_ready (rs := [2, 5]) (by kernel_rfl) (by simp) ?_
            refine rAppR 2 tEnt (.tmp 87) (.tmp 88) (some 89) (by kernel_rfl) (by kernel_rfl) (by rfl) HO1.out (by rfl) (HOLD.out _ HB1.out) HONE.out (by unfold maxLen; omega) (by omega) HB1.out.size (fun v2 wq2 hown hgrow hblk => ?_) (rLit1M 5 tEnt (Operand.tmp 91) (some 92) (by kernel_rfl) (by kernel_rfl) (cs := entP o.ent) (by rfl) HEL.out (by decide) (HM.out _ (bstep HB1.out (bel1 _ _))) ?_ AllReadyH.nil)
            · rw [List.nil_append, Nat.zero_add] at hown
              obtain ⟨a2, c2, hv2, _, _⟩ := own_snD hown
              subst hv2
              have HO2 := Lib.hid hown
              have HB2 : Hid (Below wS.heap.size wS wq2) := Lib.hid (HB1.out.grown hgrow HB1.out.size (fun g hg => (HO1.out.lt g hg).1))
              clear hown hgrow hblk
              refine ⟨HM.out _ HB2.out, fun _ => ?_⟩
              simp only [Act.put, List.setIfInBounds_toArray, List.set_cons_zero, List.set_cons_succ]
              refine wpAnyH_ready (rs := [5]) (by kernel_rfl) (by simp) ?_
              refine rLit1M 5 tEnt (Operand.tmp 91) (some 92) (by kernel_rfl) (by kernel_rfl) (cs := entP o.ent) (by rfl) HEL.out (by decide) (HM.out _ (bstep HB2.out (bel1 _ _))) ?_ AllReadyH.nil
              simp only [Act.put, List.setIfInBounds_toArray, List.set_cons_zero, List.set_cons_succ]
              obtain ⟨wq3, hwq3⟩ : ∃ wq3, wq3 = wq2.alloc (.cells (entP o.ent).toArray 25) := ⟨_, rfl⟩
              have hB3 : Below wq2.heap.size wq2 wq3 := by rw [hwq3]; exact bel1 _ _
              have HB3 := Lib.hid (bstep HB2.out hB3)
              have HO3 := Lib.hid (own_below HO2.out hB3)
              have HL3 : Hid (Sn wq3 33 (.slice (some ⟨wq2.heap.size, 0, none⟩) 1 1) 1 (entP o.ent)) := Lib.hid (by rw [hwq3]; have h := Sn.new wq2 (entP o.ent).toArray 25 33 1 (by rw [List.size_toArray, HEL.out]); rw [List.toList_toArray] at h; exact h)
              have HLT3 : Hid (wq2.heap.size < wq3.heap.size) := Lib.hid (by rw [hwq3]; simp)
              rw [← hwq3]
              clear hwq3 hB3
              refine wpAnyH_ready (rs := [6]) (by kernel_rfl) (by simp) ?_
              refine rAppR 6 tEnt (.tmp 89) (.tmp 92) (some 93) (by kernel_rfl) (by kernel_rfl) (by rfl) HO3.out (by rfl) HL3.out (entP_all o.ent) (by unfold maxLen; omega) (by omega) HB3.out.size (fun v4 wq4 hown hgrow hblk => ?_) AllReadyH.nil
              obtain ⟨a4, c4, hv4, _, _⟩ := own_snD hown
              subst hv4
              have HO4 := Lib.hid hown
              have HB4 : Hid (Below wS.heap.size wS wq4) := Lib.hid (HB3.out.grown hgrow HB3.out.size (fun g hg => (HO3.out.lt g hg).1))
              clear hown hgrow hblk
              refine ⟨HM.out _ HB4.out, fun _ => ?_⟩
              simp only [Act.put, List.setIfInBounds_toArray, List.set_cons_zero, List.set_cons_succ]
              have HFI := Lib.hid (HFIN.out wq4 (.slice a4 (nowL.length + 1) c4) HB4.out HO4.out)
              refine hTake 7 (Op.assign (Operand.tmp 93)) (some 9) ((.slice a4 (nowL.length + 1) c4)) (by kernel_rfl) (by kernel_rfl) (by kernel_rfl) (by kernel_rfl) (by kernel_rfl) (fun _ _ _ h => h) (fun o ho wX hX => by unfold execOp; simp only [ho]; go_simp) (by assumption) ?_
              simp only [Act.put, List.setIfInBounds_toArray, List.set_cons_zero, List.set_cons_succ]
              refine wpAnyH_done (by kernel_rfl) ?_ _
              go_wp2_with fail
              go_meet
              exact ⟨_, _, rfl, HFI⟩
            · simp only [Act.put, List.setIfInBounds_toArray, List.set_cons_zero, List.set_cons_succ]
              obtain ⟨wq5, hwq5⟩ : ∃ wq5, wq5 = wq1.alloc (.cells (entP o.ent).toArray 25) := ⟨_, rfl⟩
              have hB5 : Below wq1.heap.size wq1 wq5 := by rw [hwq5]; exact bel1 _ _
              have HB5 := Lib.hid (bstep HB1.out hB5)
              have HO5 := Lib.hid (own_below HO1.out hB5)
              have HL5 : Hid (Sn wq5 33 (.slice (some ⟨wq1.heap.size, 0, none⟩) 1 1) 1 (entP o.ent)) := Lib.hid (by rw [hwq5]; have h := Sn.new wq1 (entP o.ent).toArray 25 33 1 (by rw [List.size_toArray, HEL.out]); rw [List.toList_toArray] at h; exact h)
              have HLT5 : Hid (wq1.heap.size < wq5.heap.size) := Lib.hid (by rw [hwq5]; simp)
              have HNE5 : Hid (∀ b, (Value.slice (some ⟨wq1.heap.size, 0, none⟩) 1 1).ownBlock = some b → Value.ownBlock (.slice (some ⟨wS.heap.size, 0, none⟩) 0 0) ≠ some b) := Lib.hid (fun b e e2 => by have e : wq1.heap.size = b := Option.some.inj e; have := (HO1.out.lt b e2).2; omega)
              rw [← hwq5]
              clear hwq5 hB5
              refine wpAnyH_ready (rs := [2]) (by kernel_rfl) (by simp) ?_
              refine rAppR 2 tEnt (.tmp 87) (.tmp 88) (some 89) (by kernel_rfl) (by kernel_rfl) (by rfl) HO5.out (by rfl) (HOLD.out _ HB5.out) HONE.out (by unfold maxLen; omega) (by omega) HB5.out.size (fun v6 wq6 hown hgrow hblk => ?_) AllReadyH.nil
              rw [List.nil_append, Nat.zero_add] at hown
              obtain ⟨a6, c6, hv6, _, _⟩ := own_snD hown
              subst hv6
              have HO6 := Lib.hid hown
              have HB6 : Hid (Below wS.heap.size wS wq6) := Lib.hid (HB5.out.grown hgrow HB5.out.size (fun g hg => (HO5.out.lt g hg).1))
              have HL6 : Hid (Sn wq6 33 (.slice (some ⟨wq1.heap.size, 0, none⟩) 1 1) 1 (entP o.ent)) := Lib.hid (by obtain ⟨A, c, h1, h2, h3, h4⟩ := HL5.out; refine ⟨A, c, h1, h2, h3, fun hp => ?_⟩; obtain ⟨b, o, h5, h6⟩ := h4 hp; refine ⟨b, o, h5, fun j u hj => hgrow.cell (h6 j u hj) (fun e => ?_)⟩; exact HNE5.out b (by rw [h1, h5]; rfl) e.symm)
              clear hown hgrow hblk
              refine ⟨HM.out _ HB6.out, fun _ => ?_⟩
              simp only [Act.put, List.setIfInBounds_toArray, List.set_cons_zero, List.set_cons_succ]
              refine wpAnyH_ready (rs := [6]) (by kernel_rfl) (by simp) ?_
              refine rAppR 6 tEnt (.tmp 89) (.tmp 92) (some 93) (by kernel_rfl) (by kernel_rfl) (by rfl) HO6.out (by rfl) HL6.out (entP_all o.ent) (by unfold maxLen; omega) (by omega) HB6.out.size (fun v7 wq7 hown hgrow hblk => ?_) AllReadyH.nil
              obtain ⟨a7, c7, hv7, _, _⟩ := own_snD hown
              subst hv7
              have HO7 := Lib.hid hown
              have HB7 : Hid (Below wS.heap.size wS wq7) := Lib.hid (HB6.out.grown hgrow HB6.out.size (fun g hg => (HO6.out.lt g hg).1))
              clear hown hgrow hblk
              refine ⟨HM.out _ HB7.out, fun _ => ?_⟩
              simp only [Act.put, List.setIfInBounds_toArray, List.set_cons_zero, List.set_cons_succ]
              have HFI := Lib.hid (HFIN.out wq7 (.slice a7 (nowL.length + 1) c7) HB7.out HO7.out)
              refine hTake 7 (Op.assign (Operand.tmp 93)) (some 9) ((.slice a7 (nowL.length + 1) c7)) (by kernel_rfl) (by kernel_rfl) (by kernel_rfl) (by kernel_rfl) (by kernel_rfl) (fun _ _ _ h => h) (fun o ho wX hX => by unfold execOp; simp only [ho]; go_simp) (by assumption) ?_
              simp only [Act.put, List.setIfInBounds_toArray, List.set_cons_zero, List.set_cons_succ]
              refine wpAnyH_done (by kernel_rfl) ?_ _
              go_wp2_with fail
              go_meet
              exact ⟨_, _, rfl, HFI⟩
          · simp only [Act.put, List.setIfInBounds_toArray, List.set_cons_zero, List.set_cons_succ]
            obtain ⟨wq8, hwq8⟩ : ∃ wq8, wq8 = wS.alloc (.cells (entP o.ent).toArray 25) := ⟨_, rfl⟩
            have hB8 : Below wS.heap.size wS wq8 := by rw [hwq8]; exact bel1 _ _
            have HB8 := Lib.hid (bstep HBS.out hB8)
            have HL8 : Hid (Sn wq8 33 (.slice (some ⟨wS.heap.size, 0, none⟩) 1 1) 1 (entP o.ent)) := Lib.hid (by rw [hwq8]; have h := Sn.new wS (entP o.ent).toArray 25 33 1 (by rw [List.size_toArray, HEL.out]); rw [List.toList_toArray] at h; exact h)
            have HLT8 : Hid (wS.heap.size < wq8.heap.size) := Lib.hid (by rw [hwq8]; simp)
            rw [← hwq8]
            clear hwq8 hB8
            refine wpAnyH_ready (rs := [0]) (by kernel_rfl) (by simp) ?_
            refine rStep 0 (Op.buildSlice 31 0 #[]) (some 87) (.slice (some ⟨wq8.heap.size, 0, none⟩) 0 0) (wq8.alloc (.cells #[] 25)) (by kernel_rfl) (by kernel_rfl) (fun o ho => by unfold execOp; simp only [ho]; go_simp) (HM.out _ (bstep HB8.out (bel1 _ _))) ?_ AllReadyH.nil
            simp only [Act.put, List.setIfInBounds_toArray, List.set_cons_zero, List.set_cons_succ]
            obtain ⟨wq9, hwq9⟩ : ∃ wq9, wq9 = wq8.alloc (.cells #[] 25) := ⟨_, rfl⟩
            have hB9 : Below wq8.heap.size wq8 wq9 := by rw [hwq9]; exact bel1 _ _
            have HB9 := Lib.hid (bstep HB8.out hB9)
            have HL9 := Lib.hid (HL8.out.below hB9)
            have HO9 : Hid (wq9.ownsRow wS.heap.size 25 33 (.slice (some ⟨wq8.heap.size, 0, none⟩) 0 0) 0 []) := Lib.hid (by rw [hwq9]; exact own_new wq8 #[] 25 33 0 wS.heap.size _ HB8.out.size rfl (by decide) rfl)
            have HNE9 : Hid (∀ b, (Value.slice (some ⟨wS.heap.size, 0, none⟩) 1 1).ownBlock = some b → Value.ownBlock (.slice (some ⟨wq8.heap.size, 0, none⟩) 0 0) ≠ some b) := Lib.hid (fun b e e2 => by have e : wS.heap.size = b := Option.some.inj e; have e2 : wq8.heap.size = b := Option.some.inj e2; have := HLT8.out; omega)
            rw [← hwq9]
            clear hwq9 hB9
            refine wpAnyH_ready (rs := [2]) (by kernel_rfl) (by simp) ?_
            refine rAppR 2 tEnt (.tmp 87) (.tmp 88) (some 89) (by kernel_rfl) (by kernel_rfl) (by rfl) HO9.out (by rfl) (HOLD.out _ HB9.out) HONE.out (by unfold maxLen; omega) (by omega) HB9.out.size (fun v10 wq10 hown hgrow hblk => ?_) AllReadyH.nil
            rw [List.nil_append, Nat.zero_add] at hown
            obtain ⟨a10, c10, hv10, _, _⟩ := own_snD hown
            subst hv10
            have HO10 := Lib.hid hown
            have HB10 : Hid (Below wS.heap.size wS wq10) := Lib.hid (HB9.out.grown hgrow HB9.out.size (fun g hg => (HO9.out.lt g hg).1))
            have HL10 : Hid (Sn wq10 33 (.slice (some ⟨wS.heap.size, 0, none⟩) 1 1) 1 (entP o.ent)) := Lib.hid (by obtain ⟨A, c, h1, h2, h3, h4⟩ := HL9.out; refine ⟨A, c, h1, h2, h3, fun hp => ?_⟩; obtain ⟨b, o, h5, h6⟩ := h4 hp; refine ⟨b, o, h5, fun j u hj => hgrow.cell (h6 j u hj) (fun e => ?_)⟩; exact HNE9.out b (by rw [h1, h5]; rfl) e.symm)
            clear hown hgrow hblk
            refine ⟨HM.out _ HB10.out, fun _ => ?_⟩
            simp only [Act.put, List.setIfInBounds_toArray, List.set_cons_zero, List.set_cons_succ]
            refine wpAnyH_ready (rs := [6]) (by kernel_rfl) (by simp) ?_
            refine rAppR 6 tEnt (.tmp 89) (.tmp 92) (some 93) (by kernel_rfl) (by kernel_rfl) (by rfl) HO10.out (by rfl) HL10.out (entP_all o.ent) (by unfold maxLen; omega) (by omega) HB10.out.size (fun v11 wq11 hown hgrow hblk => ?_) AllReadyH.nil
            obtain ⟨a11, c11, hv11, _, _⟩ := own_snD hown
            subst hv11
            have HO11 := Lib.hid hown
            have HB11 : Hid (Below wS.heap.size wS wq11) := Lib.hid (HB10.out.grown hgrow HB10.out.size (fun g hg => (HO10.out.lt g hg).1))
            clear hown hgrow hblk
            refine ⟨HM.out _ HB11.out, fun _ => ?_⟩
            simp only [Act.put, List.setIfInBounds_toArray, List.set_cons_zero, List.set_cons_succ]
            have HFI := Lib.hid (HFIN.out wq11 (.slice a11 (nowL.length + 1) c11) HB11.out HO11.out)
            refine hTake 7 (Op.assign (Operand.tmp 93)) (some 9) ((.slice a11 (nowL.length + 1) c11)) (by kernel_rfl) (by kernel_rfl) (by kernel_rfl) (by kernel_rfl) (by kernel_rfl) (fun _ _ _ h => h) (fun o ho wX hX => by unfold execOp; simp only [ho]; go_simp) (by assumption) ?_
            simp only [Act.put, List.setIfInBounds_toArray, List.set_cons_zero, List.set_cons_succ]
            refine wpAnyH_done (by kernel_rfl) ?_ _
            go_wp2_with fail
            go_meet
            exact ⟨_, _, rfl, HFI⟩
        case rest =>
          obtain ⟨A9, c9, rfl, H9⟩ := hcut
          rename World => w5
          have HR5 := Lib.hid (op_cells19 HO.out.ent H9.out.2.2).2.2.2.1
          have HAP := Lib.hid (kp_append o.ent H9.out.1 HO.out.ent hk40)
          obtain ⟨bl, hbl, hblg, hbl1, hbl0⟩ := H9.out.1.lg.cmp
          have HBL := Lib.hid (And.intro hbl1 hbl0)
          clear hbl1 hbl0 c0 c1 cE cm cc HEB0
          go_wp2_with (refine ld 25 _ rfl rfl rfl HR5.out Try.underlying25 rfl HQI.out ?_)
          refine HAP.out.mono ?_
          rintro e w6 ⟨x, m6, d6, rfl, hg6, hka⟩
          obtain ⟨gl, hlt6, hgl6⟩ := hka.lt
          have HVE9 := Lib.hid (H9.out.2.1.lt hlt6 hgl6)
          have HKA := Lib.hid hka
          have HG6 := Lib.hid hg6
          clear hg6 hka hlt6 hgl6 HAP HR5
          cases x with
          | none =>
            have hv : valE none = .nilIface := rfl
            rw [hv]
            clear hv
            have HN6 : Hid (KR w2 w6 m.g (k + 1) (.slice A9 (nowL.length + 1) c9) (.slice none 0 0) lv) := Lib.hid ⟨m6, d6, lo, nowL ++ [o.ent], [], [], ⟨(HKA.out.kb.setNow HVE9.out).clear, (HKA.out.ok rfl).1⟩, HG6.out, (HKA.out.ok rfl).1.sb.len, (HKA.out.ok rfl).2⟩
            go_wp2_with fail
            exact ⟨⟨k + 1, _, _, _, rfl, rfl, rfl, by omega, by go_num, HN6⟩, by simp [intOf]; omega⟩
          | some y =>
            obtain ⟨ti, ui, hv⟩ := valE_form y
            have HC := Lib.hid (fun W => code19 (some y) W HKA.out.cd)
            rw [hv] at HC ⊢
            have hnf : ∀ w, (binOp .eql 33 (.iface ti ui) .nilIface).run Try.prog w = .ok (.bool false) w := fun w => by kernel_rfl
            obtain ⟨c, hc⟩ : ∃ c, c = codeA (some y) := ⟨_, rfl⟩
            have HCC := Lib.hid hc.symm
            rw [← hc] at HC
            clear hv hc
            go_upto_region 33 with fail
            obtain ⟨P, hP⟩ : ∃ P : Bool, P = (bl && (c == 11 || c == 12)) := ⟨_, rfl⟩
            have HP := Lib.hid hP
            clear hP
            go_cut [112] from 101 to 112 (fun v wx => v = .bool P ∧ Hid (Below w6.heap.size w6 wx))
            case first =>
              cases bl with
              | false =>
                go_wp2_with fail
                go_meet
                exact ⟨by rw [HP.out]; rfl, Lib.hid (Below.refl _ _)⟩
              | true =>
                go_wp2_with fail
                refine (HC.out w6).mono ?_
                rintro e w7 ⟨rfl, hb7⟩
                have HB7 := Lib.hid hb7
                clear hb7
                rcases Bool.eq_false_or_eq_true (c == 11) with t11 | t11
                · go_wp2_with fail
                  go_meet
                  exact ⟨by rw [HP.out, t11]; rfl, HB7⟩
                · go_wp2_with fail
                  refine (HC.out w7).mono ?_
                  rintro e w8 ⟨rfl, hb8⟩
                  have HB8 := Lib.hid (bstep HB7.out hb8)
                  clear hb8
                  go_wp2_with fail
                  go_meet
                  exact ⟨by rw [HP.out, t11]; rfl, HB8⟩
            case rest =>
              obtain ⟨rfl, HB7⟩ := hcut
              rename World => w7
              cases P with
              | false =>
                have HN7 : Hid (KR w2 w7 m.g (k + 1) vn vm lv) := Lib.hid (by
                  have hlg := HKA.out.ot (by simp) (by
                    have h := HP.out
                    cases bl with
                    | false => exact .inl (HBL.out.2 rfl)
                    | true =>
                      refine .inr (fun e => ?_)
                      rw [HCC.out] at e
                      rcases e with e | e <;> (rw [e] at h; cases h))
                  exact ⟨m6, d6, lo, nowL, mayL, mv, ⟨HKA.out.kb.keep HB7.out, hlg.keep HB7.out⟩, HG6.out, hlg.sb.len, hn4⟩)
                go_wp2_with fail
                exact ⟨⟨k + 1, _, _, _, rfl, rfl, rfl, by omega, by go_num, HN7⟩, by simp [intOf]; omega⟩
              | true =>
                have HLG : Hid (LG w2 w6 m6 d6 lv lo (k + 1) nowL (mayL ++ [nowL ++ [o.ent]])) := Lib.hid (by
                  have h := HP.out
                  cases bl with
                  | false => cases h
                  | true =>
                    refine HKA.out.dk (by simp) (HBL.out.1 rfl) ?_
                    rw [HCC.out]
                    have h2 : (c == 11 || c == 12) = true := h.symm
                    simpa using h2)
                obtain ⟨wl, hwl⟩ : ∃ wl, wl = w7.alloc (.cells #[.slice A9 (nowL.length + 1) c9] 31) := ⟨_, rfl⟩
                have hbl7 : Below w7.heap.size w7 wl := by rw [hwl]; exact bel1 _ _
                have HBL7 := Lib.hid (bstep HB7.out hbl7)
                have HKL := Lib.hid (HKA.out.kb.keep HBL7.out)
                have HLL := Lib.hid (HLG.out.keep HBL7.out)
                have HNW : Hid (Sn wl 1 (.slice (some ⟨w7.heap.size, 0, none⟩) 1 1) 1 [.slice A9 (nowL.length + 1) c9]) := Lib.hid (by rw [hwl]; exact Sn.new w7 #[.slice A9 (nowL.length + 1) c9] 31 1 1 rfl)
                have HMV : Hid (mv.length + 1 ≤ 100 ∧ w2.heap.size ≤ wl.heap.size) := Lib.hid ⟨by have := HK4.out.kb.ml; have := HK4.out.kb.mle; omega, HKL.out.st.bel.size⟩
                clear hbl7
                go_upto_region 11 with (first
                  | (refine lit1V tEE _ rfl rfl (by rfl) ?_; rw [← hwl])
                  | (at_builtin; refine app tEE (.tmp 113) (.tmp 115) rfl rfl (by rfl) HKL.out.own (by rfl) HNW.out one_slice (by have := HMV.out.1; unfold maxLen; omega) (by have := HMV.out.1; omega) HMV.out.2 ?_; intro v9 w9 hown hgrow hblk; have HO9 := Lib.hid hown; have HG9 := Lib.hid hgrow; have HH9 := Lib.hid hblk; clear hown hgrow hblk))
                have HN9 : Hid (KR w2 w9 m.g (k + 1) vn v9 lv) := Lib.hid ⟨m6, d6, lo, nowL, mayL ++ [nowL ++ [o.ent]], mv ++ [.slice A9 (nowL.length + 1) c9], ⟨HKL.out.push HLL.out.lo_lt (HVE9.out.keep HBL7.out) HO9.out HG9.out HH9.out (by have := HK4.out.kb.mle; omega), HLL.out.grown HG9.out (fun b e => HKL.out.mnf b e)⟩, HG6.out, HLL.out.sb.len, hn4⟩
                go_wp2_with fail
                exact ⟨⟨k + 1, _, _, _, rfl, rfl, rfl, by omega, by go_num, HN9⟩, by simp [intOf]; omega⟩
      rcases Bool.eq_false_or_eq_true (o.kind == 1) with t1 | t1
      · have HMO : Hid (∀ W, Below w.heap.size w W → Sn W 33 (.slice Am o.more.length nm) o.more.length (o.more.flatMap entP)) := Lib.hid (fun W hb => by rw [← HEM.out]; exact HO.out.more.below hb)
        have HM2 : Hid (Sn w2 33 (.slice Am o.more.length nm) o.more.length (o.more.flatMap entP)) := Lib.hid (HMO.out w2 HB2.out)
        have HRW := Lib.hid (kp_rewrite o.more Am nm HK4.out (HMO.out w4 (bstep HBW.out HB4.out)) HO.out.mok HFO.out.2.1 hk40)
        obtain ⟨bl, hbl, hblg, hbl1, hbl0⟩ := HK4.out.lg.cmp
        have HBL := Lib.hid (And.intro hbl1 hbl0)
        have hm20 : o.more.length ≤ 20 := HFO.out.2.1
        clear hbl1 hbl0
        go_wp2_with fail
        refine HRW.out.mono ?_
        rintro e w6 ⟨x, m6, d6, rfl, hg6, hka⟩
        obtain ⟨gl, hlt6, hgl6⟩ := hka.lt
        have HB6 := Lib.hid (HKI.out.box HBO.out (by rw [HGO.out]; exact Nat.le_refl _) hlt6 hgl6)
        have HKA := Lib.hid hka
        have HG6 := Lib.hid hg6
        clear hg6 hka hlt6 hgl6 HRW c0 c1 cE cm cc
        cases x with
        | none =>
            have hv : valE none = .nilIface := rfl
            rw [hv]
            clear hv
            obtain ⟨wl, hwl⟩ : ∃ wl, wl = w6.alloc (.cells #[] 25) := ⟨_, rfl⟩
            have hbl6 : Below w6.heap.size w6 wl := by rw [hwl]; exact bel1 _ _
            have HBL6 := Lib.hid hbl6
            have HOW : Hid (wl.ownsRow w6.heap.size 25 33 (.slice (some ⟨w6.heap.size, 0, none⟩) 0 0) 0 []) := Lib.hid (by rw [hwl]; exact own_new w6 #[] 25 33 0 w6.heap.size w6.heap.size (Nat.le_refl _) rfl (by decide) rfl)
            have HMW := Lib.hid (HMO.out wl (bstep (HB2.out) (HKA.out.kb.st.keep hbl6).bel))
            have HLE : Hid (w6.heap.size ≤ wl.heap.size) := Lib.hid hbl6.size
            have hcm := (op_cells19 HO.out.ent (HB6.out.keep hbl6)).2.2.2.2.1
            rw [HEM.out] at hcm
            have HON : Hid (∀ u ∈ o.more.flatMap entP, u.oneCell' = true) := Lib.hid (fun u hu => by obtain ⟨q, _, hu⟩ := List.mem_flatMap.1 hu; exact entP_all q u hu)
            clear hbl6
            subst hwl
            go_upto_region 39 with (at_builtin; refine app tEnt (.tmp 125) (.tmp 127) rfl rfl (by rfl) HOW.out (by rfl) HMW.out HON.out (by unfold maxLen; omega) (by omega) HLE.out ?_; intro v7 w7 hown hgrow hblk; rw [List.nil_append, Nat.zero_add] at hown; have HO7 := Lib.hid hown; have HG7 := Lib.hid hgrow; clear hown hgrow hblk)
            have HB7 : Hid (Below w6.heap.size w6 w7) := Lib.hid (HBL6.out.grown HG7.out HBL6.out.size (fun b e => (HOW.out.lt b e).1))
            have HN7 : Hid (KR w2 w7 m.g (k + 1) v7 (.slice none 0 0) lv) := Lib.hid ⟨m6, d6, lo, o.more, [], [], ⟨((HKA.out.kb.keep HB7.out).setNow (VE.own (w := w6) HKA.out.kb.st.dk (Nat.le_refl _) HO7.out (HKA.out.ok rfl).1.lo_lt HKA.out.kb.mb_lt HO.out.mok (by omega))).clear, (HKA.out.ok rfl).1.keep HB7.out⟩, HG6.out, (HKA.out.ok rfl).1.sb.len, (HKA.out.ok rfl).2⟩
            go_wp2_with fail
            exact ⟨⟨k + 1, _, _, _, rfl, rfl, rfl, by omega, by go_num, HN7⟩, by simp [intOf]; omega⟩
        | some y =>
            obtain ⟨ti, ui, hv⟩ := valE_form y
            have HC := Lib.hid (fun W => code19 (some y) W HKA.out.cd)
            rw [hv] at HC ⊢
            have hnf : ∀ w, (binOp .eql 33 (.iface ti ui) .nilIface).run Try.prog w = .ok (.bool false) w := fun w => by kernel_rfl
            obtain ⟨c, hc⟩ : ∃ c, c = codeA (some y) := ⟨_, rfl⟩
            have HCC := Lib.hid hc.symm
            rw [← hc] at HC
            clear hv hc
            go_upto_region 40 with fail
            obtain ⟨P, hP⟩ : ∃ P : Bool, P = (bl && (c == 11 || c == 12)) := ⟨_, rfl⟩
            have HP := Lib.hid hP
            clear hP
            go_cut [140] from 129 to 140 (fun v wx => v = .bool P ∧ Hid (Below w6.heap.size w6 wx))
            case first =>
              cases bl with
              | false =>
                go_wp2_with fail
                go_meet
                exact ⟨by rw [HP.out]; rfl, Lib.hid (Below.refl _ _)⟩
              | true =>
                go_wp2_with fail
                refine (HC.out w6).mono ?_
                rintro e w7 ⟨rfl, hb7⟩
                have HB7 := Lib.hid hb7
                clear hb7
                rcases Bool.eq_false_or_eq_true (c == 11) with t11 | t11
                · go_wp2_with fail
                  go_meet
                  exact ⟨by rw [HP.out, t11]; rfl, HB7⟩
                · go_wp2_with fail
                  refine (HC.out w7).mono ?_
                  rintro e w8 ⟨rfl, hb8⟩
                  have HB8 := Lib.hid (bstep HB7.out hb8)
                  clear hb8
                  go_wp2_with fail
                  go_meet
                  exact ⟨by rw [HP.out, t11]; rfl, HB8⟩
            case rest =>
              obtain ⟨rfl, HB7⟩ := hcut
              rename World => w7
              cases P with
              | false =>
                have HN7 : Hid (KR w2 w7 m.g (k + 1) vn vm lv) := Lib.hid (by
                  have hlg := HKA.out.ot (by simp) (by
                    have h := HP.out
                    cases bl with
                    | false => exact .inl (HBL.out.2 rfl)
                    | true =>
                      refine .inr (fun e => ?_)
                      rw [HCC.out] at e
                      rcases e with e | e <;> (rw [e] at h; cases h))
                  exact ⟨m6, d6, lo, nowL, mayL, mv, ⟨HKA.out.kb.keep HB7.out, hlg.keep HB7.out⟩, HG6.out, hlg.sb.len, hn4⟩)
                go_wp2_with fail
                exact ⟨⟨k + 1, _, _, _, rfl, rfl, rfl, by omega, by go_num, HN7⟩, by simp [intOf]; omega⟩
              | true =>
                have HLG : Hid (LG w2 w6 m6 d6 lv lo (k + 1) nowL (mayL ++ [o.more])) := Lib.hid (by
                  have h := HP.out
                  cases bl with
                  | false => cases h
                  | true =>
                    refine HKA.out.dk (by simp) (HBL.out.1 rfl) ?_
                    rw [HCC.out]
                    have h2 : (c == 11 || c == 12) = true := h.symm
                    simpa using h2)
                obtain ⟨wl, hwl⟩ : ∃ wl, wl = w7.alloc (.cells #[.slice Am o.more.length nm] 31) := ⟨_, rfl⟩
                have hbl7 : Below w7.heap.size w7 wl := by rw [hwl]; exact bel1 _ _
                have HBL7 := Lib.hid (bstep HB7.out hbl7)
                have HKL := Lib.hid (HKA.out.kb.keep HBL7.out)
                have HLL := Lib.hid (HLG.out.keep HBL7.out)
                have HNW : Hid (Sn wl 1 (.slice (some ⟨w7.heap.size, 0, none⟩) 1 1) 1 [.slice Am o.more.length nm]) := Lib.hid (by rw [hwl]; exact Sn.new w7 #[.slice Am o.more.length nm] 31 1 1 rfl)
                have HMV : Hid (mv.length + 1 ≤ 100 ∧ w2.heap.size ≤ wl.heap.size) := Lib.hid ⟨by have := HK4.out.kb.ml; have := HK4.out.kb.mle; omega, HKL.out.st.bel.size⟩
                have hcm := (op_cells19 HO.out.ent (HB6.out.keep HB7.out)).2.2.2.2.1
                rw [HEM.out] at hcm
                have HVO : Hid (VE wl m6 lo vm.ownBlock (.slice Am o.more.length nm) o.more) := Lib.hid (VE.old HKL.out.st HKL.out.cb HM2.out HO.out.mok (by omega) HLL.out.lo (fun b e => (HKL.out.own.lt b e).1))
                clear hbl7
                go_upto_region 11 with (first
                  | (refine lit1V tEE _ rfl rfl (by rfl) ?_; rw [← hwl])
                  | (at_builtin; refine app tEE (.tmp 141) (.tmp 144) rfl rfl (by rfl) HKL.out.own (by rfl) HNW.out one_slice (by have := HMV.out.1; unfold maxLen; omega) (by have := HMV.out.1; omega) HMV.out.2 ?_; intro v9 w9 hown hgrow hblk; have HO9 := Lib.hid hown; have HG9 := Lib.hid hgrow; have HH9 := Lib.hid hblk; clear hown hgrow hblk))
                have HN9 : Hid (KR w2 w9 m.g (k + 1) vn v9 lv) := Lib.hid ⟨m6, d6, lo, nowL, mayL ++ [o.more], mv ++ [.slice Am o.more.length nm], ⟨HKL.out.push HLL.out.lo_lt HVO.out HO9.out HG9.out HH9.out (by have := HK4.out.kb.mle; omega), HLL.out.grown HG9.out (fun b e => HKL.out.mnf b e)⟩, HG6.out, HLL.out.sb.len, hn4⟩
                go_wp2_with fail
                exact ⟨⟨k + 1, _, _, _, rfl, rfl, rfl, by omega, by go_num, HN9⟩, by simp [intOf]; omega⟩
      rcases Bool.eq_false_or_eq_true (o.kind == 4) with t4 | t4
      · have HFL := Lib.hid (disk_fail o.pos w4 m d HK4.out.kb.st.dk (by have := HFO.out.2.2.2; omega) (by omega))
        go_wp2_with fail
        refine HFL.out.mono ?_
        rintro e w5 ⟨rfl, m5, hk5, ht5⟩
        have hbd := plan_bd d o.pos []
        have HN5 : Hid (KR w2 w5 m.g (k + 1) vn vm lv) := Lib.hid ⟨m5, _, lo, nowL, mayL, mv, HK4.out.disk hk5 ht5 hbd.1.2 (by have := hbd.1.1; omega) (fun h => h.pF _) (fun L h => h.pF _), ht5.g, hbd.1.2.trans hsl, hn4⟩
        clear hk5 ht5 HFL hbd
        go_wp2_with fail
        exact ⟨⟨k + 1, _, _, _, rfl, rfl, rfl, by omega, by go_num, HN5⟩, by simp [intOf]; omega⟩
      rcases Bool.eq_false_or_eq_true (o.kind == 5) with t5 | t5
      · have HCA := Lib.hid (disk_crashAt o.pos (.slice Ac o.cuts.length nc) o.cuts w4 m d HK4.out.kb.st.dk (by rw [← HEC.out]; exact HO.out.cuts.below (bstep HBW.out HB4.out)) (by have := HFO.out.1; omega) (by have := HFO.out.2.2.2; omega) (by omega))
        go_wp2_with fail
        refine HCA.out.mono ?_
        rintro e w5 ⟨rfl, m5, hk5, ht5⟩
        have hbd := plan_bd d o.pos o.cuts
        have HN5 : Hid (KR w2 w5 m.g (k + 1) vn vm lv) := Lib.hid ⟨m5, _, lo, nowL, mayL, mv, HK4.out.disk hk5 ht5 hbd.2.2 (by have := hbd.2.1; omega) (fun h => h.pC _ _) (fun L h => h.pC _ _), ht5.g, hbd.2.2.trans hsl, hn4⟩
        clear hk5 ht5 HCA hbd
        go_wp2_with fail
        exact ⟨⟨k + 1, _, _, _, rfl, rfl, rfl, by omega, by go_num, HN5⟩, by simp [intOf]; omega⟩
      rcases Bool.eq_false_or_eq_true (o.kind == 6) with t6 | t6
      · have HCR := Lib.hid (disk_crash o.cuts Ac nc w4 m d HK4.out.kb.st.dk (by rw [← HEC.out]; exact HO.out.cuts.below (bstep HBW.out HB4.out)) (by have := HFO.out.1; omega))
        go_wp2_with fail
        refine HCR.out.mono ?_
        rintro e w5 ⟨rfl, m5, hk5, ht5⟩
        have hcl : (crashD d o.cuts).sec.length = d.sec.length := crashL_len _ _ _
        have hcr : (crashD d o.cuts).room ≤ d.room + 60 := by show d.room ≤ _; omega
        have HN5 : Hid (KR w2 w5 m.g (k + 1) vn vm lv) := Lib.hid ⟨m5, _, lo, nowL, mayL, mv, HK4.out.disk hk5 ht5 hcl hcr (fun h => h.crash HK4.out.kb.st.dk.ok (by omega) _) (fun L h => h.crash _), ht5.g, hcl.trans hsl, hn4⟩
        clear hk5 ht5 HCR hcl hcr
        go_wp2_with fail
        exact ⟨⟨k + 1, _, _, _, rfl, rfl, rfl, by omega, by go_num, HN5⟩, by simp [intOf]; omega⟩
      have HST := Lib.hid (disk_start w4 m d HK4.out.kb.st.dk)
      go_wp2_with fail
      refine HST.out.mono ?_
      rintro e w5 ⟨rfl, hk5, ht5⟩
      have HOP := Lib.hid (kp_open (HK4.out.start hk5 ht5) hk40 hsl)
      clear hk5 ht5 HST c0 c1 cE cm cc
      go_wp2_with fail
      refine HOP.out.mono ?_
      rintro e w6 ⟨x, pl, ve, m6, d6, rfl, hg6, hsl6, hno, hyes⟩
      have HG6 : Hid (m6.g = m.g ∧ d6.sec.length = 10) := Lib.hid ⟨hg6, hsl6⟩
      clear hg6 hsl6 HOP
      cases x with
      | some y =>
        obtain ⟨rfl, hki6⟩ := hno (by simp)
        obtain ⟨ti, ui, hv⟩ := valE_form y
        have hnt := neq_nil ti ui
        rw [hv]
        have HN6 : Hid (KR w2 w6 m.g (k + 1) vn vm (.pointer none)) := Lib.hid ⟨m6, d6, none, nowL, mayL, mv, hki6, HG6.out.1, HG6.out.2, hn4⟩
        clear hno hyes hki6 hv
        go_wp2_with fail
        exact ⟨⟨k + 1, _, _, _, rfl, rfl, rfl, by omega, by go_num, HN6⟩, by simp [intOf]; omega⟩
      | none =>
        obtain ⟨gl, es, rfl, hko⟩ := hyes rfl
        have hv : valE none = .nilIface := rfl
        rw [hv]
        obtain ⟨Ae, ce, rfl, -⟩ := id hko.ve.sn
        obtain ⟨Av, cv, rfl, -⟩ := Sn.own hko.kb.own
        have HKO := Lib.hid hko
        have hel4 : es.length ≤ 4 := hko.len
        have HSM := Lib.hid (same_any (.slice Ae es.length ce) vn es nowL w6 hko.ve.sn hko.ve.ok hko.kb.now.sn hko.kb.now.ok (by omega) (by omega))
        have hmv : (mv.length : Int) ≤ 41 := by have := hko.kb.ml; have := hko.kb.mle; omega
        clear hno hyes hko hv
        go_wp2_with fail
        refine HSM.out.mono ?_
        rintro e w7 ⟨rfl, hb7⟩
        have HB7 := Lib.hid hb7
        clear hb7 HSM
        go_wp2_with fail
        go_loopw [15, 16] (fun b j wx => ∃ i : Nat, i ≤ mv.length ∧ j = .int .i64 i ∧ b = .bool (decide (es ∈ nowL :: mayL.take i)) ∧ Hid (Below w6.heap.size w6 wx)) (fun _ j _ => mv.length - (intOf j).toNat)
        case atStart => exact ⟨0, Nat.zero_le _, rfl, by simp, HB7⟩
        case round =>
          obtain ⟨i, hi, rfl, rfl, HX⟩ := hrel
          rename World => wy
          have hml := HKO.out.kb.ml
          rcases Nat.lt_or_ge i mv.length with hlt2 | hge2
          · have hi2 : i < mayL.length := by omega
            obtain ⟨A', c', he', -, -, hx⟩ := (Sn.own HKO.out.kb.own).below HX.out
            injection he' with he1 he2 he3
            clear he2
            subst he1 he3
            obtain ⟨bb, oo, rfl, hcell⟩ := hx (by omega)
            have hc := hcell i _ (List.getElem?_eq_getElem hlt2)
            have hme := (HKO.out.kb.me i hlt2).keep HX.out
            have hgv : mv.getD i .nilIface = mv[i] := by rw [List.getD_eq_getElem?_getD, List.getElem?_eq_getElem hlt2]; rfl
            have hgl : mayL.getD i [] = mayL[i] := by rw [List.getD_eq_getElem?_getD, List.getElem?_eq_getElem hi2]; rfl
            rw [hgv, hgl] at hme
            have HTK : Hid (mayL.take (i + 1) = mayL.take i ++ [mayL[i]]) := Lib.hid (List.take_succ_eq_append_getElem hi2)
            obtain ⟨x, hxe⟩ : ∃ x, x = mv[i] := ⟨_, rfl⟩
            obtain ⟨xs, hxse⟩ : ∃ xs, xs = mayL[i] := ⟨_, rfl⟩
            rw [← hxe] at hc hme
            rw [← hxse] at hme HTK
            have HSM := Lib.hid (same_any (.slice Ae es.length ce) x es xs wy (HKO.out.ve.sn.below HX.out) HKO.out.ve.ok hme.sn hme.ok (by omega) (by have := hme.ln; omega))
            have hj0 : (0 : Int) ≤ i := by omega
            have hj1 : (i : Int) < mv.length := by omega
            obtain ⟨K, hK⟩ : ∃ K : Bool, K = decide (es ∈ nowL :: mayL.take i) := ⟨_, rfl⟩
            have HKK := Lib.hid hK
            rw [← hK]
            clear hgv hgl hme hxe hxse hcell hx hK hml
            cases K with
            | true =>
              go_wp2_with fail
              refine ⟨⟨i + 1, by omega, by go_num, ?_, HX⟩, by simp [intOf]; omega⟩
              have h := of_decide_eq_true HKK.out.symm
              have h2 : es ∈ nowL :: mayL.take (i + 1) := by
                rw [HTK.out]
                rcases List.mem_cons.1 h with h | h
                · exact List.mem_cons.2 (.inl h)
                · exact List.mem_cons.2 (.inr (List.mem_append.2 (.inl h)))
              rw [decide_eq_true h2]
            | false =>
              go_wp2_with fail
              refine HSM.out.mono ?_
              rintro e w9 ⟨rfl, hb9⟩
              have HB9 := Lib.hid (bstep HX.out hb9)
              clear hb9
              go_wp2_with fail
              refine ⟨⟨i + 1, by omega, by go_num, ?_, HB9⟩, by simp [intOf]; omega⟩
              have h := of_decide_eq_false HKK.out.symm
              congr 1
              rw [decide_eq_decide, HTK.out, List.mem_cons, List.mem_append, List.mem_singleton]
              rw [List.mem_cons] at h
              constructor
              · intro h2
                exact .inr (.inr h2)
              · rintro (h2 | h2 | h2)
                · exact absurd (.inl h2) h
                · exact absurd (.inr h2) h
                · exact h2
          · obtain rfl : i = mv.length := by omega
            have hall : decide (es ∈ nowL :: mayL.take mv.length) = true := by
              rw [hml, List.take_length]
              exact decide_eq_true HKO.out.mem
            rw [hall]
            obtain ⟨L, hlp, hcnt⟩ := HKO.out.cnt
            have HCN := Lib.hid (log_count wy gl m6.g 5 L (hlp.keep HX.out))
            rw [hcnt] at HCN
            have hnn : ((es.length : Int) != (es.length : Int)) = false := by simp
            clear hall hlp hcnt hml
            obtain ⟨wl, hwl⟩ : ∃ wl, wl = wy.alloc (.cells #[] 25) := ⟨_, rfl⟩
            have hbl : Below wy.heap.size wy wl := by rw [hwl]; exact bel1 _ _
            have HBL := Lib.hid hbl
            have HOW : Hid (wl.ownsRow wy.heap.size 25 33 (.slice (some ⟨wy.heap.size, 0, none⟩) 0 0) 0 []) := Lib.hid (by rw [hwl]; exact own_new wy #[] 25 33 0 wy.heap.size wy.heap.size (Nat.le_refl _) rfl (by decide) rfl)
            have HMW := Lib.hid (HKO.out.ve.sn.below (bstep HX.out hbl))
            have HLE : Hid (wy.heap.size ≤ wl.heap.size) := Lib.hid hbl.size
            have HON : Hid (∀ u ∈ es.flatMap entP, u.oneCell' = true) := Lib.hid (fun u hu => by obtain ⟨q, _, hu⟩ := List.mem_flatMap.1 hu; exact entP_all q u hu)
            clear hbl
            subst hwl
            go_wp2_with fail
            refine HCN.out.mono ?_
            rintro e wq ⟨rfl, hwq⟩
            rw [hwq]
            clear hwq wq HCN
            go_upto_region 26 with (at_builtin; refine app tEnt (.tmp 82) (.tmp 83) rfl rfl (by rfl) HOW.out (by rfl) HMW.out HON.out (by unfold maxLen; omega) (by omega) HLE.out ?_; intro v7 w7 hown hgrow hblk; rw [List.nil_append, Nat.zero_add] at hown; have HO7 := Lib.hid hown; have HG7 := Lib.hid hgrow; clear hown hgrow hblk)
            have HB7 : Hid (Below wy.heap.size wy w7) := Lib.hid (HBL.out.grown HG7.out HBL.out.size (fun b e => (HOW.out.lt b e).1))
            have HB8 := Lib.hid (bstep HX.out HB7.out)
            have HN7 : Hid (KR w2 w7 m.g (k + 1) v7 (.slice none 0 0) (.pointer (some ⟨gl, 0, none⟩))) := Lib.hid ⟨m6, d6, some gl, es, [], [], ⟨((HKO.out.kb.keep HB8.out).setNow (VE.own (w := wy) (HKO.out.kb.keep HX.out).st.dk (Nat.le_refl _) HO7.out (HKO.out.lg.keep HX.out).lo_lt (HKO.out.kb.keep HX.out).mb_lt HKO.out.ve.ok (by omega))).clear, HKO.out.lg.keep HB8.out⟩, HG6.out.1, HG6.out.2, HKO.out.len⟩
            go_wp2_with fail
            exact ⟨⟨k + 1, _, _, _, rfl, rfl, rfl, by omega, by go_num, HN7⟩, by simp [intOf]; omega⟩
    · obtain rfl : k = l.length := by omega
      have HW : Hid (Below w.heap.size w wr) := Lib.hid hbw
      go_wp2_with fail
      go_ret
      exact ⟨rfl, HW.out⟩
end Go.Proofs.Ytillkpjflcgkeaa
