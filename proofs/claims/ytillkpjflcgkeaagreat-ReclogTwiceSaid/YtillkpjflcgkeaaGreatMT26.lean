import Derived.Test.YtillkpjflcgkeaaGreatMT25
import Derived.Test.YtillkpjflcgkeaaGreatMT15
import Derived.Test.YtillkpjflcgkeaaGreatMT16
set_option linter.unusedSimpArgs false
set_option maxRecDepth 100000
namespace Go.Proofs.YtillkpjflcgkeaaGreat
open Go.RowKit
attribute [local irreducible] wpQuiet wpAnyH
theorem stC_oneR (st : SSt) (A : Option Addr) (n cap : Nat) : (stC st (.slice A n cap)).all (·.oneCell') = true := all_oneCell_toArray (cs := [.bool st.1.isSome, .int .u32 (st.1.getD 0 : Nat), .slice A n cap]) fun u hu => by
 simp only [List.mem_cons, List.not_mem_nil, or_false] at hu
 rcases hu with rfl | rfl | rfl <;> rfl
theorem lit1M {P : Program} {ops : Array Oper} {rest : List Oper} {o : Oper} {a : Act} {w : World} {Q : Exit → Act → World → Prop} {t e s bytes : Nat} (T : SlT P t e s bytes) (x : Operand) (ho : o.op = .buildSlice t 1 #[(0, x)]) (hw : Region.wanted o (yielded ops a.tmps) = true)
  {cs : List Value} (hx : a.eval x = .agg cs.toArray) (hl : cs.length = s) (hs1 : s ≤ 1000)
  (h : wpList P ops Q rest (a.put o.dst (.slice (some ⟨w.heap.size, 0, none⟩) 1 1)) (w.alloc (.cells cs.toArray e))) : wpList P ops Q (o :: rest) a w :=
 wpList_step fun K hK => by
  rw [if_pos hw]
  unfold Oper.wp
  have hrun : (execOp a.eval o).run P w = .ok (.value (.slice (some ⟨w.heap.size, 0, none⟩) 1 1)) (w.alloc (.cells cs.toArray e)) := by
   have hrun := run_lit1M T cs hl hs1 w
   unfold execOp
   simp only [ho, Sem.run_bind, List.map_toArray, List.map_cons, List.map_nil, hx, hrun, Result.andThen_ok]
   rfl
  rw [hrun, Oper.upon_value]
  exact hK _ _ h
theorem zeroS18 : ∀ w, (zeroValue 143).run Tryz.prog w = .ok (.agg stZ) w := fun w => by unfold stZ; kernel_rfl
theorem builtS18 : Tryz.prog.built 143 [] = some stZ := by unfold stZ; kernel_rfl
theorem builtSG (g : Nat) : Tryz.prog.built 143 [(0, .bool true), (1, .int .u32 g)] = some (stC (some g, []) (.slice none 0 0)) := by unfold stC; kernel_rfl
theorem stI (st : SSt) (v : Value) : (Tryz.prog.info? 143).map (·.size) = some (stC st v).size := by unfold stC; kernel_rfl
theorem rsecs_drop (r : RefD) (f : Int) : ∀ (z k : Nat), k < z → (rsecs r f z).drop k = rdR r (f + k) :: (rsecs r f z).drop (k + 1)
 | 0, k, h => by omega
 | z + 1, 0, _ => by rw [rsecs]; simp
 | z + 1, k + 1, h => by
  rw [rsecs, List.drop_succ_cons, List.drop_succ_cons]
  have : ∀ (z : Nat) (a : Int), rsecs r (a + 1) z = rsecs r (a + 1) z := fun _ _ => rfl
  have h1 := rsecs_drop r (f + 1) z k (by omega)
  rw [h1, show f + 1 + (k : Int) = f + ((k + 1 : Nat) : Int) by omega]
theorem rsecs_length (r : RefD) : ∀ (z : Nat) (f : Int), (rsecs r f z).length = z
 | 0, _ => rfl
 | z + 1, f => by rw [rsecs, List.length_cons, rsecs_length r z]
theorem sec_range {w : World} {g : Nat} {s : List Int} (h : Blk w g 72 (u8s s).toArray) : w.rangeAt g 0 (u8s s) := by
 have h := h.range
 rwa [List.toList_toArray] at h
theorem prsH_lt {s : List Int} (hb : Bys s) (hl : s.length = 64) {g : Nat} (h : prsH s = some g) : g < 4294967296 := by
 unfold prsH at h
 cases hp : prs s with
 | none => rw [hp] at h; cases h
 | some x =>
  obtain ⟨g', p⟩ := x
  rw [hp] at h
  simp only at h
  split at h
  ·injection h with h
   subst h
   have := prs_gen hp
   rw [this]
   have := beN_lt ((s.drop 60).take 4) (fun c hc => hb c (List.mem_of_mem_drop (List.mem_of_mem_take hc)))
   rw [List.length_take, List.length_drop, hl] at this
   exact this
  ·cases h
structure RS (w wr : World) (m : RM) (r : RefD) (gS g : Nat) (es : List Ent2) (v : Value) : Prop where
 ba : Blk wr w.heap.size 31 (refC m r)
 bz : Blk wr (w.heap.size + 1) 143 stZ
 bs : Blk wr gS 143 (stC (some g, es) v)
 own : wr.ownsRow (gS + 1) 43 33 v es.length (es.flatMap entP)
 bw : Below w.heap.size w wr
 k : RK wr m r
 ok : ∀ q ∈ es, EntOk q
theorem RS.next {w wr wx wy : World} {m : RM} {r : RefD} {gS g : Nat} {es : List Ent2} {v v' : Value} {q : Ent2} (h : RS w wr m r gS g es v) (hk : RK w m r) (hg : w.heap.size + 2 < gS) (hx : Below wr.heap.size wr wx) (hgr : wx.grownBy wy v.ownBlock) (ho : wy.ownsRow (gS + 1) 43 33 v' (es.length + 1) (es.flatMap entP ++ entP q)) (hq : EntOk q) :
  RS w (wy.setCell ⟨gS, 2, none⟩ v') m r gS g (es ++ [q]) v' := by
 have hlt := h.bs.lt
 have hb : Below (gS + 1) wr wy := ((hx.mono (by omega)).grown hgr (by have := hx.size; omega) (fun b e => (h.own.lt b e).1))
 have hbw : Below w.heap.size w (wy.setCell ⟨gS, 2, none⟩ v') := (h.bw.trans (hb.mono (by omega))).setCell (by simp; omega) _
 refine ⟨(h.ba.below hb (by omega)).far (by simp; omega) _, (h.bz.below hb (by omega)).far (by simp; omega) _, (h.bs.below hb (by omega)).set_ 2 v', ?_, hbw, hk.keep hbw, fun x hx => ?_⟩
 ·rw [List.length_append, List.flatMap_append]
  simp only [List.flatMap_cons, List.flatMap_nil, List.append_nil, List.length_cons, List.length_nil]
  exact own_blk ho (fun b e => Below.heap_setCell _ ⟨gS, 2, none⟩ _ b (fun e2 => by have := (ho.lt b e).1; simp at e2; omega))
 ·rcases List.mem_append.1 hx with hx | hx
  ·exact h.ok x hx
  ·rw [List.mem_singleton.1 hx]; exact hq
theorem RS.keep {w wr wx : World} {m : RM} {r : RefD} {gS g : Nat} {es : List Ent2} {v : Value} (h : RS w wr m r gS g es v) (hb : Below wr.heap.size wr wx) : RS w wx m r gS g es v :=
 ⟨h.ba.keep hb, h.bz.keep hb, h.bs.keep hb, own_below h.own hb, bstep h.bw hb, h.k.keep hb, h.ok⟩
set_option maxHeartbeats 4000000 in
theorem ref18_scan (m : RM) (r : RefD) (f : Int) (z : Nat) (w : World) (h : RK w m r) (hf : 0 ≤ f ∧ f ≤ 100000) (hz1 : 1 ≤ z) (hz : z ≤ 10000) :
    Calls Tryz.prog 72 #[.agg (refC m r), .int .i64 f, .int .i64 z] w fun e w' => Below w.heap.size w w' ∧ ∃ v, e = .returned (.agg (stC (scanL (none, []) (rsecs r f z)) v)) ∧ w'.ownsRow w.heap.size 43 33 v (scanL (none, []) (rsecs r f z)).2.length ((scanL (none, []) (rsecs r f z)).2.flatMap entP) ∧ (∀ q ∈ (scanL (none, []) (rsecs r f z)).2, EntOk q) := by
  obtain ⟨w1, hw1⟩ : ∃ w1, w1 = (w.alloc (.cells (refC m r) 31)).alloc (.cells stZ 143) := ⟨_, rfl⟩
  have hA1 : Blk w1 w.heap.size 31 (refC m r) := by rw [hw1]; exact (Blk.new _ _ _).alloc _
  have hZ1 : Blk w1 (w.heap.size + 1) 143 stZ := by rw [hw1]; exact Blk.newAt _ _ _ _ (by simp)
  have hb1 : Below w.heap.size w w1 := by rw [hw1]; exact bstep (bel1 _ _) (bel1 _ _)
  have hsz1 : w1.heap.size = w.heap.size + 2 := by rw [hw1]; simp
  have hlen : (Tryz.prog.info? 31).map (·.size) = some (refC m r).toList.length := refI
  have HA1 := Lib.hid hA1
  have HZ1 := Lib.hid hZ1
  have HW1 := Lib.hid hb1
  have HK := Lib.hid h
  have HSEC : Hid (∀ a, Sec (rdR r a)) := jz (rdR_sec h.ok)
  have HU : Hid (∀ s, Sec s → (Tryz.prog.info? 72).map (·.size) = some (u8s s).length) := jz (fun s hs => by rw [sec_length hs]; kernel_rfl)
  have HST : Hid (∀ s, Sec s → (z64.size = (u8s s).toArray.size) ∧ ((u8s s).toArray.all (·.oneCell') = true) ∧ (Tryz.prog.info? 72).map (·.size) = some (u8s s).toArray.size) := jz (fun s hs => ⟨by rw [z64_size]; simp [sec_length hs], u8s_one s, by simp only [List.size_toArray, sec_length hs]; kernel_rfl⟩)
  have hf64 : isI64 f := ⟨by omega, by omega⟩
  have HRD := jz (fun W (hb : Below w.heap.size w W) a ha => ref_read m r a W (HK.out.keep hb) ha)
  clear hA1 hZ1 hb1 h
  have hr1 := HA1.out.range
  have HR1 := Lib.hid hr1
  obtain ⟨s0, hs0⟩ : ∃ s0, s0 = rdR r f := ⟨_, rfl⟩
  have HS0 := jz (HSEC.out f)
  have HR0 := jz (HRD.out w1 HW1.out f hf64)
  rw [← hs0] at HS0 HR0
  have hrs : rsecs r f z = s0 :: (rsecs r f z).drop 1 := by
    have := rsecs_drop r f z 0 (by omega)
    rw [List.drop_zero, show f + ((0 : Nat) : Int) = f by omega, ← hs0] at this
    exact this
  have HRS := Lib.hid hrs
  have hst0 := HST.out _ HS0.out
  have HST0 := Lib.hid hst0
  obtain ⟨c0, hc0⟩ : ∃ c0, c0 = rdRA r f := ⟨_, rfl⟩
  rw [← hc0] at HR0
  clear hr1 hs0 hrs hst0 hc0
  go_enter Tryz.func72, Tryz.ntmps72
  go_upto_region 1 with (refine al 143 stZ rfl rfl zeroS18 ?_)
  rw [← hw1]
  clear hw1
  go_wp2_with (refine ld 31 _ rfl rfl rfl HR1.out Tryz.underlying31 rfl hlen ?_)
  refine HR0.out.mono ?_
  rintro e w2 ⟨rfl, hb2⟩
  have HB2 := Lib.hid hb2
  clear hb2
  go_upto_region 2 with (first
    | (refine al 72 z64 rfl rfl zero64 ?_)
    | (refine stNew (cells := (u8s s0).toArray) 72 (.tmp 7) (.tmp 22) rfl rfl rfl rfl HST0.out.2.2 HST0.out.1 HST0.out.2.1 ?_; intro w3 hB3 hb3 hs3))
  have HR3 : Hid (w3.rangeAt w2.heap.size 0 (u8s s0)) := jz (sec_range hB3)
  have HA3 := jz ((HA1.out.keep HB2.out).keep hb3)
  have HZ3 := jz ((HZ1.out.keep HB2.out).keep hb3)
  have HW3 := jz (bstep (bstep HW1.out HB2.out) hb3)
  have hlt3 : w.heap.size + 2 < w3.heap.size := by have := HB2.out.size; omega
  clear hB3 hb3 hs3 HA1 HZ1 HW1 HB2 HR1 HR0
  have HU0 := jz (HU.out _ HS0.out)
  go_wp2_with (refine ld 72 _ rfl rfl rfl HR3.out Tryz.underlying72 rfl HU0.out ?_)
  refine (ref17_header s0 w3 HS0.out.1 HS0.out.2).mono ?_
  rintro e w4 ⟨hb4, ⟨hp, rfl⟩ | ⟨g, hp, rfl⟩⟩
  · have HV : Hid (scanL (none, []) (rsecs r f z) = (none, [])) := jz (by
      rw [HRS.out, scanL]
      unfold stepS
      simp only [hp, Option.map_none])
    have HZ4 := jz (HZ3.out.keep hb4)
    have HW4 := jz (bstep HW3.out hb4)
    clear hp hb4
    go_wp2_with (first
      | (refine bld 143 _ rfl rfl rfl builtS18 ?_)
      | (refine stBlk (cells := stZ) 143 (.tmp 6) (.tmp 31) rfl rfl rfl rfl HZ4.out (by kernel_rfl) rfl stZ_one ?_; intro w5 hB5 hb5 _ _; have HB5 := Lib.hid hB5; have HE5 := Lib.hid hb5; clear hB5 hb5))
    have hbw : Below w.heap.size w w5 := HW4.out.trans (HE5.out.mono (by omega))
    refine bodyPost_ret (results_cell_row rfl _ _ (w.heap.size + 1) 143 _ (0, 0) _ rfl HB5.out Tryz.underlying143 rfl (by kernel_rfl)) rfl ⟨hbw, .slice none 0 0, ?_⟩
    rw [HV.out]
    exact ⟨rfl, World.ownsRow_nil _ _ _ _, fun q hq => by cases hq⟩
  · have hgl := prsH_lt HS0.out.2 HS0.out.1 hp
    have HV : Hid (scanL (none, []) (rsecs r f z) = scanL (some g, []) ((rsecs r f z).drop 1)) := jz (by
      rw [HRS.out, scanL]
      unfold stepS
      simp only [hp, Option.map_some]
      simp)
    have HA4 := jz (HA3.out.keep hb4)
    have HZ4 := jz (HZ3.out.keep hb4)
    have HW4 := jz (bstep HW3.out hb4)
    have hlt4 : w.heap.size + 2 < w4.heap.size := by have := hb4.size; omega
    have hone := stC_oneR (some g, []) none 0 0
    clear hp hb4 HA3 HZ3 HW3 HR3
    go_upto_region 6 with (first
      | (refine bld 143 _ rfl rfl rfl (builtSG g) ?_)
      | (refine al 143 stZ rfl rfl zeroS18 ?_)
      | (refine stNew (cells := stC (some g, []) (.slice none 0 0)) 143 (.tmp 11) (.tmp 33) rfl rfl rfl rfl (stI _ _) rfl hone ?_; intro w5 hB5 hb5 hs5))
    obtain ⟨gS, hgS⟩ : ∃ gS, gS = w4.heap.size := ⟨_, rfl⟩
    rw [← hgS] at hB5 ⊢
    have HRSS : Hid (RS w w5 m r gS g [] (.slice none 0 0)) := Lib.hid ⟨HA4.out.keep hb5, HZ4.out.keep hb5, hB5, World.ownsRow_nil _ _ _ _, bstep HW4.out hb5, (HK.out.keep HW4.out).keep hb5, fun q hq => by cases hq⟩
    have hgS2 : w.heap.size + 2 < gS := by omega
    clear hB5 hb5 hs5 HA4 HZ4 HW4 hgS hlt4 hlt3
    go_wp2_with fail
    go_loopw [12] (fun i wr => ∃ k : Nat, 1 ≤ k ∧ k ≤ z ∧ i = .int .i64 (k : Int) ∧ ∃ (es : List Ent2) (A : Option Addr) (c : Nat), es.length < k ∧ Hid (RS w wr m r gS g es (.slice A es.length c)) ∧ Hid (scanL (none, []) (rsecs r f z) = scanL (some g, es) ((rsecs r f z).drop k))) (fun i _ => z - (intOf i).toNat)
    case atStart => exact ⟨1, Nat.le_refl _, hz1, rfl, [], none, 0, by simp, HRSS, HV⟩
    case round =>
      obtain ⟨k, hk1, hk2, rfl, es, A, c, hel, HX, HVK⟩ := hrel
      have hfix : Below w.heap.size w wr := HX.out.bw
      have hszr := hfix.size
      rcases Nat.lt_or_ge k z with hlt | hge
      · have hkz : (k : Int) < z := by omega
        have hk0 : (0 : Int) ≤ k := by omega
        have hk10 : (k : Int) ≤ 10000 := by omega
        obtain ⟨y, hy⟩ : ∃ y, y = f + (k : Int) := ⟨_, rfl⟩
        have hy64 : isI64 y := ⟨by omega, by omega⟩
        have HY : Hid (IntKind.i64.wrap (f + (k : Int)) = y) := jz (by rw [hy]; exact IntWalk.i64_in _ (by omega))
        have HRK := jz (ref_read m r y wr HX.out.k hy64)
        have HSK := jz (HSEC.out y)
        have HDK := jz (rsecs_drop r f z k hlt)
        rw [← hy] at HDK
        obtain ⟨s, hs⟩ : ∃ s, s = rdR r y := ⟨_, rfl⟩
        obtain ⟨cy, hcy⟩ : ∃ cy, cy = rdRA r y := ⟨_, rfl⟩
        rw [← hs] at HRK HSK HDK
        rw [← hcy] at HRK
        have HSTK := jz (HST.out _ HSK.out)
        have HUK := jz (HU.out _ HSK.out)
        have hr1 := HX.out.ba.range
        have HR1 := Lib.hid hr1
        have hyy := HY.out
        clear hy hs hcy hr1 hfix
        go_wp2_with (refine ld 31 _ rfl rfl rfl HR1.out Tryz.underlying31 rfl hlen ?_)
        refine HRK.out.mono ?_
        rintro e w6 ⟨rfl, hb6⟩
        have HX6 := jz (HX.out.keep hb6)
        clear hb6
        go_upto_region 10 with (first
          | (refine al 72 z64 rfl rfl zero64 ?_)
          | (refine stNew (cells := (u8s s).toArray) 72 (.tmp 13) (.tmp 45) rfl rfl rfl rfl HSTK.out.2.2 HSTK.out.1 HSTK.out.2.1 ?_; intro w7 hB7 hb7 hs7))
        have HR7 : Hid (w7.rangeAt w6.heap.size 0 (u8s s)) := jz (sec_range hB7)
        have HX7 := jz (HX6.out.keep hb7)
        clear hB7 hb7 hs7 HX6 HR1 HRK hyy HY
        go_wp2_with (refine ld 72 _ rfl rfl rfl HR7.out Tryz.underlying72 rfl HUK.out ?_)
        refine (ref17_entry s w7 HSK.out.1 HSK.out.2).mono ?_
        rintro e w8 ⟨hb8, hres⟩
        have HX8 := jz (HX7.out.keep hb8)
        clear hb8 HX7 HR7
        have hst1 := stC_oneR (some g, es) A es.length c
        have hstI := stI (some g, es) (.slice A es.length c)
        have hstL : (Tryz.prog.info? 143).map (·.size) = some (stC (some g, es) (.slice A es.length c)).toList.length := stI _ _
        rcases hres with ⟨hn, rfl⟩ | ⟨g', q, hp, rfl⟩
        · have HV2 : Hid (scanL (none, []) (rsecs r f z) = (some g, es)) := jz (by
            rw [HVK.out, HDK.out, scanL]
            unfold stepS
            simp only [hn])
          have hei : (Tryz.prog.info? 43).map (·.size) = some zE.size := by rw [zE_size]; kernel_rfl
          clear hn
          go_upto_region 11 with (first
            | (refine al 43 zE rfl rfl zeroE ?_)
            | (refine stNew (cells := zE) 43 (.tmp 16) (.tmp 51) rfl rfl rfl rfl hei rfl zE_one ?_; intro w9 hB9 hb9 hs9))
          have HX9 := jz (HX8.out.keep hb9)
          have HR9 := Lib.hid HX9.out.bs.range
          clear hB9 hb9 hs9 HX8
          go_wp2_with (first
            | (refine ld 143 _ rfl rfl rfl HR9.out Tryz.underlying143 rfl hstL ?_)
            | (refine stBlk (cells := stC (some g, es) (.slice A es.length c)) 143 (.tmp 6) (.tmp 60) rfl rfl rfl rfl HX9.out.bz hstI rfl hst1 ?_; intro w10 hB10 hb10 ho10 _; have HB10 := Lib.hid hB10; have HE10 := Lib.hid hb10; have HO10 := Lib.hid ho10; clear hB10 hb10 ho10))
          have hbw : Below w.heap.size w w10 := HX9.out.bw.trans (HE10.out.mono (by omega))
          refine bodyPost_ret (results_cell_row rfl _ _ (w.heap.size + 1) 143 _ (0, 0) _ rfl HB10.out Tryz.underlying143 rfl hstI) rfl ⟨hbw, .slice A es.length c, ?_⟩
          rw [HV2.out]
          exact ⟨rfl, own_base (own_blk HX9.out.own (fun b e => HO10.out b (by have := (HX9.out.own.lt b e).1; omega))) (by omega), HX9.out.ok⟩
        · have HQ := jz (prsE_ok HSK.out.2 hp)
          have h33 := entP_length q HQ.out
          have hqi : (Tryz.prog.info? 43).map (·.size) = some (entP q).toArray.size := by rw [List.size_toArray, h33]; kernel_rfl
          have hqz : zE.size = (entP q).toArray.size := by rw [zE_size, List.size_toArray, h33]
          have hq1 : (entP q).toArray.all (·.oneCell') = true := entC_one _ _
          have hql : (Tryz.prog.info? 43).map (·.size) = some (entP q).length := by rw [h33]; kernel_rfl
          have HP := Lib.hid hp
          clear hp
          go_upto_region 11 with (first
            | (refine al 43 zE rfl rfl zeroE ?_)
            | (refine stNew (cells := (entP q).toArray) 43 (.tmp 16) (.tmp 51) rfl rfl rfl rfl hqi hqz hq1 ?_; intro w9 hB9 hb9 hs9))
          have HX9 := jz (HX8.out.keep hb9)
          have HQ9 : Hid (w9.rangeAt w8.heap.size 0 (entP q)) := jz (by have h := Blk.range (t := 43) hB9; rwa [List.toList_toArray] at h)
          clear hB9 hb9 hs9 HX8
          rcases Bool.eq_false_or_eq_true ((g' : Int) != (g : Int)) with t1 | t1
          · have HV2 : Hid (scanL (none, []) (rsecs r f z) = (some g, es)) := jz (by
              have hne : g' ≠ g := fun e => by rw [e] at t1; simp at t1
              rw [HVK.out, HDK.out, scanL]
              unfold stepS
              simp only [HP.out, if_neg hne])
            have HR9 := Lib.hid HX9.out.bs.range
            go_wp2_with (first
              | (refine ld 143 _ rfl rfl rfl HR9.out Tryz.underlying143 rfl hstL ?_)
              | (refine stBlk (cells := stC (some g, es) (.slice A es.length c)) 143 (.tmp 6) (.tmp 60) rfl rfl rfl rfl HX9.out.bz hstI rfl hst1 ?_; intro w10 hB10 hb10 ho10 _; have HB10 := Lib.hid hB10; have HE10 := Lib.hid hb10; have HO10 := Lib.hid ho10; clear hB10 hb10 ho10))
            have hbw : Below w.heap.size w w10 := HX9.out.bw.trans (HE10.out.mono (by omega))
            refine bodyPost_ret (results_cell_row rfl _ _ (w.heap.size + 1) 143 _ (0, 0) _ rfl HB10.out Tryz.underlying143 rfl hstI) rfl ⟨hbw, .slice A es.length c, ?_⟩
            rw [HV2.out]
            exact ⟨rfl, own_base (own_blk HX9.out.own (fun b e => HO10.out b (by have := (HX9.out.own.lt b e).1; omega))) (by omega), HX9.out.ok⟩
          · have hgg : g' = g := by have : (g' : Int) = g := by simpa using t1
                                    omega
            have HV2 : Hid (scanL (none, []) (rsecs r f z) = scanL (some g, es ++ [q]) ((rsecs r f z).drop (k + 1))) := jz (by
              rw [HVK.out, HDK.out, scanL]
              unfold stepS
              simp only [HP.out, if_pos hgg])
            have c2 := HX9.out.bs.cell 2
            have f2 := HX9.out.bs.frozen 2
            simp only [stC, List.getElem?_toArray, List.getElem?_cons_zero, List.getElem?_cons_succ] at c2
            have hgw : gS < w9.heap.size := HX9.out.bs.lt
            have HOW := jz (World.ownsRow.alloc HX9.out.own (.cells (entP q).toArray 43))
            have HNEW : Hid (Sn (w9.alloc (.cells (entP q).toArray 43)) 33 (.slice (some ⟨w9.heap.size, 0, none⟩) 1 1) 1 (entP q)) := jz (by have h := Sn.new w9 (entP q).toArray 43 33 1 (by rw [List.size_toArray, h33]); rwa [List.toList_toArray] at h)
            have HBE : Hid (Below w9.heap.size w9 (w9.alloc (.cells (entP q).toArray 43))) := jz (bel1 _ _)
            have hqm : ∀ u ∈ entP q, u.oneCell' = true := fun u hu => by have := hq1; rw [Array.all_eq_true_iff_forall_mem] at this; exact this u (by simpa using hu)
            have HQM := Lib.hid hqm
            clear hgg hqm hqz hqi hq1
            go_wp2_with (first
              | (refine ld 43 _ rfl rfl rfl HQ9.out Tryz.underlying43 rfl hql ?_)
              | (refine lit1M tEnt _ rfl rfl rfl h33 (by decide) ?_)
              | (at_builtin; refine app tEnt (.tmp 62) (.tmp 64) rfl rfl rfl HOW.out rfl HNEW.out HQM.out (by unfold maxLen; omega) (by omega) (by simp; omega) ?_; intro v11 w11 hown hgrow _; obtain ⟨A11, c11, rfl, _, _⟩ := own_snD hown; have HO11 := Lib.hid hown; have HG11 := Lib.hid hgrow; have hc11 : w11.cell? ⟨gS, 2, none⟩ = some (.slice A es.length c) := hgrow.cell ((Below.cell' HBE.out c2)) (fun e => by have := (HX9.out.own.lt gS e.symm).1; omega); have hf11 : w11.frozen? ⟨gS, 2, none⟩ = false := (Blk.frozen (t := 143) (cs := stC (some g, es) (.slice A es.length c)) ((hgrow.block gS (by simp; omega) (fun e => by have := (HX9.out.own.lt gS e.symm).1; omega)).trans (HX9.out.bs.keep HBE.out)) 2); clear hown hgrow))
            have HXN := jz (HX9.out.next HK.out hgS2 HBE.out HG11.out HO11.out HQ.out)
            exact ⟨⟨k + 1, by omega, by omega, by go_num, es ++ [q], A11, c11, by rw [List.length_append]; simp; omega, by rw [List.length_append]; exact HXN, HV2⟩, by simp [intOf]; omega⟩
      · obtain rfl : k = z := by omega
        have HV2 : Hid (scanL (none, []) (rsecs r f k) = (some g, es)) := jz (by rw [HVK.out, List.drop_of_length_le (by rw [rsecs_length]; exact Nat.le_refl _)]; rfl)
        have hst1 := stC_oneR (some g, es) A es.length c
        have hstI := stI (some g, es) (.slice A es.length c)
        have hstL : (Tryz.prog.info? 143).map (·.size) = some (stC (some g, es) (.slice A es.length c)).toList.length := stI _ _
        have HR9 := Lib.hid HX.out.bs.range
        go_wp2_with (first
          | (refine ld 143 _ rfl rfl rfl HR9.out Tryz.underlying143 rfl hstL ?_)
          | (refine stBlk (cells := stC (some g, es) (.slice A es.length c)) 143 (.tmp 6) (.tmp 67) rfl rfl rfl rfl HX.out.bz hstI rfl hst1 ?_; intro w10 hB10 hb10 ho10 _; have HB10 := Lib.hid hB10; have HE10 := Lib.hid hb10; have HO10 := Lib.hid ho10; clear hB10 hb10 ho10))
        have hbw : Below w.heap.size w w10 := HX.out.bw.trans (HE10.out.mono (by omega))
        refine bodyPost_ret (results_cell_row rfl _ _ (w.heap.size + 1) 143 _ (0, 0) _ rfl HB10.out Tryz.underlying143 rfl hstI) rfl ⟨hbw, .slice A es.length c, ?_⟩
        rw [HV2.out]
        exact ⟨rfl, own_base (own_blk HX.out.own (fun b e => HO10.out b (by have := (HX.out.own.lt b e).1; omega))) (by omega), HX.out.ok⟩
end Go.Proofs.YtillkpjflcgkeaaGreat
