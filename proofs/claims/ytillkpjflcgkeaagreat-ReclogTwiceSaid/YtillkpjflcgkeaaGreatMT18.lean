import Derived.Test.YtillkpjflcgkeaaGreatMT17
import Derived.Test.YtillkpjflcgkeaaGreatMT6
import Derived.Test.YtillkpjflcgkeaaGreatMT5
import Derived.Laws.OwnMore
set_option linter.unusedSimpArgs false
set_option maxRecDepth 100000
namespace Go.Proofs.YtillkpjflcgkeaaGreat
open Go.RowKit
attribute [local irreducible] wpQuiet wpAnyH
def rhas (r : RefD) (a : Int) : Bool := decide (0 ≤ a) && decide (a < r.sec.length)
def radd (r : RefD) (a : Int) (s : List Int) : RefD := if rhas r a then { r with opn := r.opn ++ [(a, s)] } else r
def rwriteD (r : RefD) (a : Int) (s : List Int) : RefD := if r.down then r else if (stepF r).2.1 then rcrashD (radd (rstep r) a s) (stepF r).2.2.1 else if (stepF r).1 then rstep r else radd (rstep r) a s
def rwriteA (r : RefD) (a : Int) : Int := if r.down then 12 else if (stepF r).2.1 then 12 else if (stepF r).1 then 11 else if rhas r a then 0 else 15
theorem tRWr : SlT Tryz.prog 28 117 65 72 := SlT.mk' Tryz.underlying28 (z := .agg (wrC (0, List.replicate 64 0)).toArray) (by kernel_rfl) rfl (by decide)
theorem built_rwr (a : Int) (s : List Int) (hs : Sec s) : Tryz.prog.built 117 [(0, .int .i64 a), (1, .agg (u8s s).toArray)] = some (wrC (a, s)).toArray := by
 rw [list_of_range s 64 hs.1]
 generalize (fun i => s.getD i 0) = D
 kernel_rfl
theorem ROk.add {r : RefD} (h : ROk r) {a : Int} {s : List Int} (hs : Sec s) (ho : r.opn.length + 1 ≤ 50000) : ROk (radd r a s) := by
  unfold radd
  split
  · rename_i hh
    unfold rhas at hh
    simp only [Bool.and_eq_true, decide_eq_true_eq] at hh
    exact { sec := h.sec, ev := h.ev, few := h.few, lp := h.lp, st := h.st
            lo := by show (r.opn ++ [(a, s)]).length ≤ 50000; simp; omega
            opn := fun p hp => by
              rcases List.mem_append.1 hp with hp | hp
              · exact h.opn p hp
              · rw [List.mem_singleton.1 hp]; exact ⟨hh.1, hh.2, hs⟩ }
  · exact h
theorem wrs_one (l : List (Int × List Int)) : ∀ u ∈ l.flatMap wrC, u.oneCell' = true := fun u hu => by
 obtain ⟨p, _, hu⟩ := List.mem_flatMap.1 hu
 exact wrC_one p u hu
theorem own_offK {w w' : World} {base e s n b : Nat} {v : Value} {xs : List Value} (h : w.ownsRow base e s v n xs) (hk : ∀ k, k ≠ b → w'.heap[k]? = w.heap[k]?) (hne : v.ownBlock ≠ some b) : Sn w' s v n xs := (Sn.own h).offK hk hne
structure RW7 (w wx : World) (m : RM) (r : RefD) (a : Int) (s : List Int) (g : Nat) (mo : Value) : Prop where
 bg : Blk wx g 31 (refC ⟨m.sv, mo, m.pv⟩ (radd (rstep r) a s))
 k : RK wx ⟨m.sv, mo, m.pv⟩ (radd (rstep r) a s)
 new : ∀ b, mo.ownBlock = some b → b ∈ rowsOf m r ∨ g < b
 ba : Blk wx w.heap.size 31 (refC m (rstep r))
 bb : Blk wx (w.heap.size + 2) 31 refZ
 bw : Below w.heap.size w wx
 lt : w.heap.size + 3 ≤ g
theorem radd_plan (r : RefD) (a : Int) (s : List Int) : (radd (rstep r) a s).plan = r.plan := by
 unfold radd
 split <;> rfl
theorem RW7.rows {w wx : World} {m : RM} {r : RefD} {a : Int} {s : List Int} {g : Nat} {mo : Value} (h : RW7 w wx m r a s g mo) : ∀ b ∈ rowsOf ⟨m.sv, mo, m.pv⟩ (radd (rstep r) a s), b ∈ rowsOf m r ∨ g < b := fun b hb => by
 rw [mem_rows, radd_plan] at hb
 rcases hb with hb | hb | hb | hb
 ·exact .inl (mem_rows.2 (.inl hb))
 ·exact h.new b hb
 ·exact .inl (mem_rows.2 (.inr (.inr (.inl hb))))
 ·exact .inl (mem_rows.2 (.inr (.inr (.inr hb))))
theorem stepF_cuts {w : World} {m : RM} {r : RefD} (h : RK w m r) : Sn w 1 (stepF r).2.2.2 (stepF r).2.2.1.length (i64s (stepF r).2.2.1) ∧ (∀ c ∈ (stepF r).2.2.1, isI64 c) ∧ (stepF r).2.2.1.length ≤ 1000000 := by
 have hfull := stF_mem (r.steps + 1) r.plan (false, false, ([], .slice none 0 0))
 rcases hfull with h1 | ⟨p, hp, h1⟩
 ·unfold stepF
  rw [h1]
  exact ⟨Sn.nil w 1, fun c hc => (by cases hc), Nat.zero_le _⟩
 ·unfold stepF
  rw [h1]
  exact ⟨h.cuts p hp, (h.ok.ev p hp).2⟩
set_option maxHeartbeats 4000000 in
theorem ref_write (m : RM) (r : RefD) (a : Int) (s : List Int) (w : World) (h : RK w m r) (hs : Sec s) (ha : isI64 a) (hst : r.steps + 1 ≤ 1000000000) (ho : r.opn.length + 1 ≤ 50000) :
  Calls Tryz.prog 28 #[.agg (refC m r), .int .i64 a, .agg (u8s s).toArray] w fun e w' => ∃ m', e = .returned (.tuple #[.agg (refC m' (rwriteD r a s)), .int .i64 (rwriteA r a)]) ∧ RK w' m' (rwriteD r a s) ∧ Below w.heap.size w w' ∧ ∀ b ∈ rowsOf m' (rwriteD r a s), b ∈ rowsOf m r ∨ w.heap.size ≤ b := by
 obtain ⟨As, cs, es⟩ := h.sec.slc
 obtain ⟨Ao, co, eo⟩ := h.opn.slc
 have HK := Lib.hid h
 have a1 : -9223372036854775808 ≤ a := ha.1
 have a2 : a ≤ 9223372036854775807 := ha.2
 have HSS := Lib.hid hs
 have HOL := Lib.hid ho
 have hcells : ∀ r', r'.sec = r.sec → r'.opn = r.opn → r'.down = r.down → refC m r' = #[.slice As r.sec.length cs, .slice Ao r.opn.length co, .bool r.down, .int .i64 r'.steps, m.pv] := fun r' _ _ h3 => by unfold refC; rw [es, eo, h3]
 have HCE := Lib.hid hcells
 obtain ⟨w1, hw1⟩ : ∃ w1, w1 = ((w.alloc (.cells (refC m r) 31)).alloc (.cells (u8s s).toArray 72)).alloc (.cells refZ 31) := ⟨_, rfl⟩
 have hA1 : Blk w1 w.heap.size 31 (refC m r) := by rw [hw1]; exact ((Blk.new _ _ _).alloc _).alloc _
 have hD1 : Blk w1 (w.heap.size + 1) 72 (u8s s).toArray := by rw [hw1]; exact (Blk.newAt _ _ _ _ (by simp)).alloc _
 have hB1 : Blk w1 (w.heap.size + 2) 31 refZ := by rw [hw1]; exact Blk.newAt _ _ _ _ (by simp)
 have hb1 : Below w.heap.size w w1 := by rw [hw1]; exact bstep (bstep (bel1 _ _) (bel1 _ _)) (bel1 _ _)
 have hc2 := hA1.cell 2
 rw [hcells r rfl rfl rfl] at hc2
 simp only [List.getElem?_toArray, List.getElem?_cons_zero, List.getElem?_cons_succ] at hc2
 have hr1 := hA1.range
 have h1 : (refC m r).all (·.oneCell') = true := refC_one h
 have hlen : ∀ m r, (Tryz.prog.info? 31).map (·.size) = some (refC m r).toList.length := fun _ _ => refI
 have HA1 := Lib.hid hA1
 have HD1 := Lib.hid hD1
 have HB1 := Lib.hid hB1
 have HW1 := Lib.hid hb1
 have HR1 := Lib.hid hr1
 clear hA1 hD1 hB1 hb1 h hs es eo hcells hr1 ho ha
 cases hdn : r.down with
 | true =>
  rw [hdn] at hc2
  have HF : Hid (rwriteD r a s = r ∧ rwriteA r a = 12) := jz (by unfold rwriteD rwriteA; rw [hdn]; exact ⟨rfl, rfl⟩)
  clear hdn
  go_enter Tryz.func28, Tryz.ntmps28
  go_upto_region 1 with (refine al 31 refZ rfl rfl zeroRef ?_)
  rw [← hw1]
  clear hw1
  go_wp2_with (first
   | (refine ld 31 _ rfl rfl rfl HR1.out Tryz.underlying31 rfl (hlen m r) ?_)
   | (refine stBlk (cells := refC m r) 31 (.tmp 6) (.tmp 15) rfl rfl rfl rfl HB1.out refI rfl h1 ?_; intro w4 hB4 hb4 ho4 hs4; have HB4 := Lib.hid hB4; have HE4 := Lib.hid hb4; clear hB4 hb4 ho4 hs4))
  have hbw : Below w.heap.size w w4 := HW1.out.trans (HE4.out.mono (by omega))
  have hr4 := HB4.out.range
  exact bodyPost_ret (results_cell1 rfl _ rfl hr4 Tryz.underlying31 rfl (hlen m r)) rfl ⟨m, by rw [HF.out.1, HF.out.2]; rfl, by rw [HF.out.1]; exact HK.out.keep hbw, hbw, by rw [HF.out.1]; exact fun b hb => .inl hb⟩
 | false =>
  rw [hdn] at hc2
  have HDN := Lib.hid hdn
  clear hdn
  have HP := jz (ref_step m r w1 (HK.out.keep HW1.out) hst)
  obtain ⟨⟨fl, cr, cu, cv⟩, hsf⟩ : ∃ x, x = stepF r := ⟨_, rfl⟩
  have HSF := Lib.hid hsf
  rw [← hsf] at HP
  simp only at HP
  have h2 : (refC m (rstep r)).all (·.oneCell') = true := refC_one (w := w) (m := m) (r := rstep r) ⟨HK.out.sec, HK.out.opn, HK.out.plan, HK.out.cuts, HK.out.ok.step hst, HK.out.bl⟩
  clear hsf
  go_enter Tryz.func28, Tryz.ntmps28
  go_upto_region 1 with (refine al 31 refZ rfl rfl zeroRef ?_)
  rw [← hw1]
  clear hw1
  go_upto_region 4 with (first
   | (refine ld 31 _ rfl rfl rfl HR1.out Tryz.underlying31 rfl (hlen m r) ?_)
   | (go_at_call 54; refine HP.out.mono ?_; rintro e w2 ⟨rfl, hk2, hb2, hcu⟩)
   | (refine stBlk (cells := refC m (rstep r)) 31 (.tmp 3) (.tmp 19) rfl rfl rfl rfl (HA1.out.keep hb2) refI rfl h2 ?_; intro w3 hB3 hb3 ho3 hs3))
  have HB3 : Hid (Blk w3 (w.heap.size + 2) 31 refZ) := jz ((ho3 _ (by omega)).trans (HB1.out.keep hb2))
  have HD3 : Hid (Blk w3 (w.heap.size + 1) 72 (u8s s).toArray) := jz ((ho3 _ (by omega)).trans (HD1.out.keep hb2))
  have HA3 : Hid (Blk w3 w.heap.size 31 (refC m (rstep r))) := Lib.hid hB3
  have HW3 : Hid (Below w.heap.size w w3) := jz ((bstep HW1.out hb2).trans hb3)
  have hsz3 : w.heap.size + 3 ≤ w3.heap.size := by have := HB3.out.lt; omega
  clear hB3 hb3 ho3 hs3 hk2 hb2 HP HA1 HD1 HB1 HR1 h1 hc2
  have hc0 := HA3.out.cell 0
  rw [HCE.out (rstep r) rfl rfl rfl] at hc0
  simp only [List.getElem?_toArray, List.getElem?_cons_zero] at hc0
  have hlen4 : (r.sec.length : Int) ≤ 4096 := by have := HK.out.ok.few; omega
  go_cut [11] from 23 to 31 (fun c wx => c = .bool (rhas r a) ∧ wx = w3)
  case first =>
   rcases Bool.eq_false_or_eq_true (decide (0 ≤ a)) with t1 | t1 <;> rcases Bool.eq_false_or_eq_true (decide (a < (r.sec.length : Int))) with t2 | t2
   all_goals
    go_wp2_with fail
    go_meet
    exact ⟨by unfold rhas; rw [t1, t2]; rfl, by trivial⟩
  case rest =>
  obtain ⟨rfl, rfl⟩ := hcut
  have hr3 := HA3.out.range
  go_upto_if 33 with (first
   | (refine ld 31 _ rfl rfl rfl hr3 Tryz.underlying31 rfl (hlen m (rstep r)) ?_)
   | (refine al 31 refZ rfl rfl zeroRef ?_)
   | (refine stNew (cells := refC m (rstep r)) 31 (.tmp 12) (.tmp 32) rfl rfl (by rfl) (by rfl) refI (by rfl) h2 ?_; intro w5 hK5 hb5 hs5))
  have HA5 := jz (HA3.out.keep hb5)
  have HD5 := jz (HD3.out.keep hb5)
  have HB5 := jz (HB3.out.keep hb5)
  have HW5 := jz (bstep HW3.out hb5)
  obtain ⟨g, hg⟩ : ∃ g, g = wc.heap.size := ⟨_, rfl⟩
  have HG5 : Hid (Blk w5 g 31 (refC m (rstep r))) := jz (by rw [hg]; exact hK5)
  rw [← hg] at hs5 hsz3 ⊢
  clear hK5 hb5 HA3 HD3 HB3 HW3 hr3 hc0 hg h2
  have hRS : RK w m (rstep r) := ⟨HK.out.sec, HK.out.opn, HK.out.plan, HK.out.cuts, HK.out.ok.step hst, HK.out.bl⟩
  have HRS := Lib.hid hRS
  clear hRS
  obtain ⟨RH, hRH⟩ : ∃ RH, RH = rhas r a := ⟨_, rfl⟩
  rw [← hRH]
  have HRH := Lib.hid hRH.symm
  clear hRH
  go_cut [] from 34 to 43 (fun wx => ∃ mo : Value, Hid (RW7 w wx m r a s g mo))
  case first =>
   cases RH with
   | false =>
    have hrh := HRH.out
    have HF : Hid (radd (rstep r) a s = rstep r) := jz (by unfold radd; rw [show rhas (rstep r) a = rhas r a from rfl, hrh]; rfl)
    clear hrh
    go_wp2_with fail
    go_meet
    exact ⟨m.ov, Lib.hid ⟨by rw [HF.out]; exact HG5.out, by rw [HF.out]; exact HRS.out.keep HW5.out, fun b hb => .inl (mem_rows.2 (.inr (.inl hb))), HA5.out, HB5.out, HW5.out, hsz3⟩⟩
   | true =>
    have hrh := HRH.out
    have HF : Hid (radd (rstep r) a s = { rstep r with opn := r.opn ++ [(a, s)] }) := jz (by unfold radd; rw [show rhas (rstep r) a = rhas r a from rfl, hrh]; rfl)
    have HOKA : Hid (ROk (radd (rstep r) a s)) := jz (HRS.out.ok.add HSS.out HOL.out)
    clear hrh
    obtain ⟨wS, hwS⟩ : ∃ wS, wS = w5.drew := ⟨_, rfl⟩
    have hbS : Below w5.heap.size w5 wS := by rw [hwS]; exact (Below.refl _ _).drew
    have HAS := jz (HA5.out.keep hbS)
    have HDS := jz (HD5.out.keep hbS)
    have HBS' := jz (HB5.out.keep hbS)
    have HWS := jz (bstep HW5.out hbS)
    have HGS := jz (HG5.out.keep hbS)
    have hsS : wS.heap.size = g + 1 := by rw [hwS]; exact hs5
    have HM : Hid (∀ W, Below wS.heap.size wS W → Below g wS W) := jz (fun W h => h.mono (by omega))
    have HBS : Hid (Below wS.heap.size wS wS) := jz (Below.refl _ _)
    have HOLD : Hid (∀ W, Below wS.heap.size wS W → Sn W 65 (.slice Ao r.opn.length co) r.opn.length (r.opn.flatMap wrC)) := jz (fun W h => by
     have e := HCE.out r rfl rfl rfl
     unfold refC at e
     have h2 : m.ov = .slice Ao r.opn.length co := by have := congrArg (fun x => x[1]?) e; exact Option.some.inj this
     rw [← h2]
     exact HK.out.opn.below (bstep HWS.out h))
    have HIX : Hid (∀ W, Below g wS W → W.cell? ⟨w.heap.size, 1, none⟩ = some (.slice Ao r.opn.length co) ∧ W.rangeAt (w.heap.size + 1) 0 (u8s s)) := jz (fun W h => by
     have h1 := HAS.out.below h (by omega)
     have h2 := HDS.out.below h (by omega)
     refine ⟨?_, ?_⟩
     ·rw [h1.cell 1, HCE.out (rstep r) rfl rfl rfl]; rfl
     ·have := h2.range; rw [List.toList_toArray] at this; exact this)
    have HUS : Hid ((Tryz.prog.info? 72).map (·.size) = some (u8s s).length) := jz (by rw [sec_length HSS.out]; kernel_rfl)
    have HUW : Hid ((wrC (a, s)).length = 65) := jz (wrC_length (p := (a, s)) HSS.out)
    have hol : r.opn.length + 1 ≤ 50000 := HOL.out
    have HONE := jz (wrs_one r.opn)
    have HFIN : Hid (∀ W V, Below wS.heap.size wS W → W.ownsRow wS.heap.size 117 65 V (r.opn.length + 1) (r.opn.flatMap wrC ++ wrC (a, s)) → RW7 w (W.setCell ⟨g, 1, none⟩ V) m r a s g V) := jz (fun W V hb ho => by
     have hoth : ∀ k, k ≠ g → (W.setCell ⟨g, 1, none⟩ V).heap[k]? = W.heap[k]? := fun k hk => Below.heap_setCell W ⟨g, 1, none⟩ V k hk
     have hbw : Below w.heap.size w (W.setCell ⟨g, 1, none⟩ V) := (bstep HWS.out hb).setCell (by show w.heap.size ≤ g; omega) _
     have hne : ∀ b, V.ownBlock = some b → g < b := fun b e => by have := (ho.lt b e).1; omega
     have hk := HRS.out.keep hbw
     refine ⟨?_, ?_, fun b e => .inr (hne b e), (hoth _ (by omega)).trans (HAS.out.keep hb), (hoth _ (by omega)).trans (HBS'.out.keep hb), hbw, hsz3⟩
     ·have h1 := (HGS.out.keep hb).set_ 1 V
      rw [HF.out]
      exact h1
     ·have hok := HOKA.out
      rw [HF.out] at hok ⊢
      refine ⟨hk.sec, ?_, hk.plan, hk.cuts, hok, fun b hm => ?_⟩
      ·show Sn _ 65 V (r.opn ++ [(a, s)]).length ((r.opn ++ [(a, s)]).flatMap wrC)
       rw [List.flatMap_append, List.length_append]
       have := own_offK ho hoth (fun e => by have := hne g e; omega)
       simpa using this
      ·have hsz : (W.setCell ⟨g, 1, none⟩ V).heap.size = W.heap.size := by simp
       rw [hsz]
       rw [mem_rows] at hm
       rcases hm with hm | hm | hm | hm
       ·have := HK.out.bl b (mem_rows.2 (.inl hm)); have := hbw.size; omega
       ·exact (ho.lt b hm).2
       ·have := HK.out.bl b (mem_rows.2 (.inr (.inr (.inl hm)))); have := hbw.size; omega
       ·have := HK.out.bl b (mem_rows.2 (.inr (.inr (.inr hm)))); have := hbw.size; omega)
    go_upto_region 7 with fail
    refine held_start 11 (fun w' => Below g wS w') (by kernel_rfl) (by kernel_rfl) (by rw [hwS]; exact Below.refl _ _) (fun hHeld => ?_)
    rw [← hwS] at hHeld ⊢
    clear hwS
    refine jT 1 (.fieldAddr 31 (.tmp 3) 1) (some 35) (.pointer (some ⟨w.heap.size, 1, none⟩)) hHeld ?_
    simp only [j1, j2, j3, j4, j5]
    refine jT 2 (.load 28 (.tmp 35)) (some 36) (.slice Ao r.opn.length co) (hy := fun o ho wX hX => by have hcell := (HIX.out wX hX).1; unfold execOp; simp only [ho]; go_simp) hHeld ?_
    simp only [j1, j2, j3, j4, j5]
    refine jM 4 (.tmp 1) (some 38) (.int .i64 a) hHeld ?_
    simp only [j1, j2, j3, j4, j5]
    refine jL 5 72 (.tmp 5) (some 39) (cs := u8s s) (fun _ hX => (HIX.out _ hX).2) Tryz.underlying72 rfl HUS.out hHeld ?_
    simp only [j1, j2, j3, j4, j5]
    refine hBuildM 6 117 #[(0, Operand.tmp 38), (1, Operand.tmp 39)] (some 40) (vs := [(0, .int .i64 a), (1, .agg (u8s s).toArray)]) (cells := (wrC (a, s)).toArray) (by kernel_rfl) (by kernel_rfl) (by kernel_rfl) (by kernel_rfl) (by kernel_rfl) (fun _ _ _ h => h) (by rfl) (built_rwr a s HSS.out) hHeld ?_
    simp only [j1, j2, j3, j4, j5]
    refine jW [0, 7] ?_
    refine jS 0 (.buildSlice 28 0 #[]) (some 34) (.slice (some ⟨wS.heap.size, 0, none⟩) 0 0) (wS.alloc (.cells #[] 117)) (HM.out _ (bstep HBS.out (bel1 _ _))) ?_ (rLit1M 7 tRWr (Operand.tmp 40) (some 41) (by kernel_rfl) (by kernel_rfl) (cs := wrC (a, s)) (by rfl) HUW.out (by decide) (HM.out _ (bstep HBS.out (bel1 _ _))) ?_ jN)
    ·simp only [j1, j2, j3, j4, j5]
     obtain ⟨wq1, hwq1⟩ : ∃ wq1, wq1 = wS.alloc (.cells #[] 117) := ⟨_, rfl⟩
     have hB1 : Below wS.heap.size wS wq1 := by rw [hwq1]; exact bel1 _ _
     have HB1 := jz (bstep HBS.out hB1)
     have HO1 : Hid (wq1.ownsRow wS.heap.size 117 65 (.slice (some ⟨wS.heap.size, 0, none⟩) 0 0) 0 []) := jz (by rw [hwq1]; exact own_new wS #[] 117 65 0 wS.heap.size _ HBS.out.size rfl (by decide) rfl)
     rw [← hwq1]
     clear hwq1 hB1
     refine jW [3, 7] ?_
     refine rAppR 3 tRWr (.tmp 34) (.tmp 36) (some 37) (by kernel_rfl) (by kernel_rfl) (by rfl) HO1.out (by rfl) (HOLD.out _ HB1.out) HONE.out (by unfold maxLen; omega) (by omega) HB1.out.size (fun v2 wq2 hown hgrow hblk => ?_) (rLit1M 7 tRWr (Operand.tmp 40) (some 41) (by kernel_rfl) (by kernel_rfl) (cs := wrC (a, s)) (by rfl) HUW.out (by decide) (HM.out _ (bstep HB1.out (bel1 _ _))) ?_ jN)
     ·rw [List.nil_append, Nat.zero_add] at hown
      obtain ⟨a2, c2, hv2, _, _⟩ := own_snD hown
      subst hv2
      have HO2 := Lib.hid hown
      have HB2 : Hid (Below wS.heap.size wS wq2) := jz (HB1.out.grown hgrow HB1.out.size (fun g hg => (HO1.out.lt g hg).1))
      clear hown hgrow hblk
      refine ⟨HM.out _ HB2.out, fun _ => ?_⟩
      simp only [j1, j2, j3, j4, j5]
      refine jW [7] ?_
      refine rLit1M 7 tRWr (Operand.tmp 40) (some 41) (by kernel_rfl) (by kernel_rfl) (cs := wrC (a, s)) (by rfl) HUW.out (by decide) (HM.out _ (bstep HB2.out (bel1 _ _))) ?_ jN
      simp only [j1, j2, j3, j4, j5]
      obtain ⟨wq3, hwq3⟩ : ∃ wq3, wq3 = wq2.alloc (.cells (wrC (a, s)).toArray 117) := ⟨_, rfl⟩
      have hB3 : Below wq2.heap.size wq2 wq3 := by rw [hwq3]; exact bel1 _ _
      have HB3 := jz (bstep HB2.out hB3)
      have HO3 := jz (own_below HO2.out hB3)
      have HL3 : Hid (Sn wq3 65 (.slice (some ⟨wq2.heap.size, 0, none⟩) 1 1) 1 (wrC (a, s))) := jz (by rw [hwq3]; have h := Sn.new wq2 (wrC (a, s)).toArray 117 65 1 (by rw [List.size_toArray, HUW.out]); rw [List.toList_toArray] at h; exact h)
      have HLT3 : Hid (wq2.heap.size < wq3.heap.size) := jz (by rw [hwq3]; simp)
      rw [← hwq3]
      clear hwq3 hB3
      refine jW [8] ?_
      refine rAppR 8 tRWr (.tmp 37) (.tmp 41) (some 42) (by kernel_rfl) (by kernel_rfl) (by rfl) HO3.out (by rfl) HL3.out (wrC_one (a, s)) (by unfold maxLen; omega) (by omega) HB3.out.size (fun v4 wq4 hown hgrow hblk => ?_) jN
      obtain ⟨a4, c4, hv4, _, _⟩ := own_snD hown
      subst hv4
      have HO4 := Lib.hid hown
      have HB4 : Hid (Below wS.heap.size wS wq4) := jz (HB3.out.grown hgrow HB3.out.size (fun g hg => (HO3.out.lt g hg).1))
      clear hown hgrow hblk
      refine ⟨HM.out _ HB4.out, fun _ => ?_⟩
      simp only [j1, j2, j3, j4, j5]
      refine jT 9 (.fieldAddr 31 (.tmp 12) 1) (some 43) (.pointer (some ⟨g, 1, none⟩)) (by assumption) ?_
      simp only [j1, j2, j3, j4, j5]
      refine jW [10] ?_
      have HFI := jz (HFIN.out wq4 (.slice a4 (r.opn.length + 1) c4) HB4.out HO4.out)
      have hcg := (HGS.out.keep HB4.out).cell 1
      have hfg := (HGS.out.keep HB4.out).frozen 1
      rw [HCE.out (rstep r) rfl rfl rfl] at hcg
      simp only [List.getElem?_toArray, List.getElem?_cons_succ, List.getElem?_cons_zero] at hcg
      refine rSkipR 10 (Op.store 28 (Operand.tmp 43) (Operand.tmp 42)) none (wq4.setCell ⟨g, 1, none⟩ (.slice a4 (r.opn.length + 1) c4)) (by kernel_rfl) (by kernel_rfl) (fun o ho => by unfold execOp; simp only [ho]; go_simp) ((HM.out _ HB4.out).setCell (Nat.le_refl _) _) ?_ jN
      simp only [j1, j2, j3, j4, j5]
      refine wpAnyH_done (by kernel_rfl) ?_ _
      go_wp2_with fail
      go_meet
      exact ⟨_, HFI⟩
     ·simp only [j1, j2, j3, j4, j5]
      obtain ⟨wq5, hwq5⟩ : ∃ wq5, wq5 = wq1.alloc (.cells (wrC (a, s)).toArray 117) := ⟨_, rfl⟩
      have hB5 : Below wq1.heap.size wq1 wq5 := by rw [hwq5]; exact bel1 _ _
      have HB5 := jz (bstep HB1.out hB5)
      have HO5 := jz (own_below HO1.out hB5)
      have HL5 : Hid (Sn wq5 65 (.slice (some ⟨wq1.heap.size, 0, none⟩) 1 1) 1 (wrC (a, s))) := jz (by rw [hwq5]; have h := Sn.new wq1 (wrC (a, s)).toArray 117 65 1 (by rw [List.size_toArray, HUW.out]); rw [List.toList_toArray] at h; exact h)
      have HLT5 : Hid (wq1.heap.size < wq5.heap.size) := jz (by rw [hwq5]; simp)
      have HNE5 : Hid (∀ b, (Value.slice (some ⟨wq1.heap.size, 0, none⟩) 1 1).ownBlock = some b → Value.ownBlock (.slice (some ⟨wS.heap.size, 0, none⟩) 0 0) ≠ some b) := jz (fun b e e2 => by have e : wq1.heap.size = b := Option.some.inj e; have := (HO1.out.lt b e2).2; omega)
      rw [← hwq5]
      clear hwq5 hB5
      refine jW [3] ?_
      refine rAppR 3 tRWr (.tmp 34) (.tmp 36) (some 37) (by kernel_rfl) (by kernel_rfl) (by rfl) HO5.out (by rfl) (HOLD.out _ HB5.out) HONE.out (by unfold maxLen; omega) (by omega) HB5.out.size (fun v6 wq6 hown hgrow hblk => ?_) jN
      rw [List.nil_append, Nat.zero_add] at hown
      obtain ⟨a6, c6, hv6, _, _⟩ := own_snD hown
      subst hv6
      have HO6 := Lib.hid hown
      have HB6 : Hid (Below wS.heap.size wS wq6) := jz (HB5.out.grown hgrow HB5.out.size (fun g hg => (HO5.out.lt g hg).1))
      have HL6 : Hid (Sn wq6 65 (.slice (some ⟨wq1.heap.size, 0, none⟩) 1 1) 1 (wrC (a, s))) := jz (by obtain ⟨A, c, h1, h2, h3, h4⟩ := HL5.out; refine ⟨A, c, h1, h2, h3, fun hp => ?_⟩; obtain ⟨b, o, h5, h6⟩ := h4 hp; refine ⟨b, o, h5, fun j u hj => hgrow.cell (h6 j u hj) (fun e => ?_)⟩; exact HNE5.out b (by rw [h1, h5]; rfl) e.symm)
      clear hown hgrow hblk
      refine ⟨HM.out _ HB6.out, fun _ => ?_⟩
      simp only [j1, j2, j3, j4, j5]
      refine jW [8] ?_
      refine rAppR 8 tRWr (.tmp 37) (.tmp 41) (some 42) (by kernel_rfl) (by kernel_rfl) (by rfl) HO6.out (by rfl) HL6.out (wrC_one (a, s)) (by unfold maxLen; omega) (by omega) HB6.out.size (fun v7 wq7 hown hgrow hblk => ?_) jN
      obtain ⟨a7, c7, hv7, _, _⟩ := own_snD hown
      subst hv7
      have HO7 := Lib.hid hown
      have HB7 : Hid (Below wS.heap.size wS wq7) := jz (HB6.out.grown hgrow HB6.out.size (fun g hg => (HO6.out.lt g hg).1))
      clear hown hgrow hblk
      refine ⟨HM.out _ HB7.out, fun _ => ?_⟩
      simp only [j1, j2, j3, j4, j5]
      refine jT 9 (.fieldAddr 31 (.tmp 12) 1) (some 43) (.pointer (some ⟨g, 1, none⟩)) (by assumption) ?_
      simp only [j1, j2, j3, j4, j5]
      refine jW [10] ?_
      have HFI := jz (HFIN.out wq7 (.slice a7 (r.opn.length + 1) c7) HB7.out HO7.out)
      have hcg := (HGS.out.keep HB7.out).cell 1
      have hfg := (HGS.out.keep HB7.out).frozen 1
      rw [HCE.out (rstep r) rfl rfl rfl] at hcg
      simp only [List.getElem?_toArray, List.getElem?_cons_succ, List.getElem?_cons_zero] at hcg
      refine rSkipR 10 (Op.store 28 (Operand.tmp 43) (Operand.tmp 42)) none (wq7.setCell ⟨g, 1, none⟩ (.slice a7 (r.opn.length + 1) c7)) (by kernel_rfl) (by kernel_rfl) (fun o ho => by unfold execOp; simp only [ho]; go_simp) ((HM.out _ HB7.out).setCell (Nat.le_refl _) _) ?_ jN
      simp only [j1, j2, j3, j4, j5]
      refine wpAnyH_done (by kernel_rfl) ?_ _
      go_wp2_with fail
      go_meet
      exact ⟨_, HFI⟩
    ·simp only [j1, j2, j3, j4, j5]
     obtain ⟨wq8, hwq8⟩ : ∃ wq8, wq8 = wS.alloc (.cells (wrC (a, s)).toArray 117) := ⟨_, rfl⟩
     have hB8 : Below wS.heap.size wS wq8 := by rw [hwq8]; exact bel1 _ _
     have HB8 := jz (bstep HBS.out hB8)
     have HL8 : Hid (Sn wq8 65 (.slice (some ⟨wS.heap.size, 0, none⟩) 1 1) 1 (wrC (a, s))) := jz (by rw [hwq8]; have h := Sn.new wS (wrC (a, s)).toArray 117 65 1 (by rw [List.size_toArray, HUW.out]); rw [List.toList_toArray] at h; exact h)
     have HLT8 : Hid (wS.heap.size < wq8.heap.size) := jz (by rw [hwq8]; simp)
     rw [← hwq8]
     clear hwq8 hB8
     refine jW [0] ?_
     refine jS 0 (.buildSlice 28 0 #[]) (some 34) (.slice (some ⟨wq8.heap.size, 0, none⟩) 0 0) (wq8.alloc (.cells #[] 117)) (HM.out _ (bstep HB8.out (bel1 _ _))) ?_ jN
     simp only [j1, j2, j3, j4, j5]
     obtain ⟨wq9, hwq9⟩ : ∃ wq9, wq9 = wq8.alloc (.cells #[] 117) := ⟨_, rfl⟩
     have hB9 : Below wq8.heap.size wq8 wq9 := by rw [hwq9]; exact bel1 _ _
     have HB9 := jz (bstep HB8.out hB9)
     have HL9 := jz (HL8.out.below hB9)
     have HO9 : Hid (wq9.ownsRow wS.heap.size 117 65 (.slice (some ⟨wq8.heap.size, 0, none⟩) 0 0) 0 []) := jz (by rw [hwq9]; exact own_new wq8 #[] 117 65 0 wS.heap.size _ HB8.out.size rfl (by decide) rfl)
     have HNE9 : Hid (∀ b, (Value.slice (some ⟨wS.heap.size, 0, none⟩) 1 1).ownBlock = some b → Value.ownBlock (.slice (some ⟨wq8.heap.size, 0, none⟩) 0 0) ≠ some b) := jz (fun b e e2 => by have e : wS.heap.size = b := Option.some.inj e; have e2 : wq8.heap.size = b := Option.some.inj e2; have := HLT8.out; omega)
     rw [← hwq9]
     clear hwq9 hB9
     refine jW [3] ?_
     refine rAppR 3 tRWr (.tmp 34) (.tmp 36) (some 37) (by kernel_rfl) (by kernel_rfl) (by rfl) HO9.out (by rfl) (HOLD.out _ HB9.out) HONE.out (by unfold maxLen; omega) (by omega) HB9.out.size (fun v10 wq10 hown hgrow hblk => ?_) jN
     rw [List.nil_append, Nat.zero_add] at hown
     obtain ⟨a10, c10, hv10, _, _⟩ := own_snD hown
     subst hv10
     have HO10 := Lib.hid hown
     have HB10 : Hid (Below wS.heap.size wS wq10) := jz (HB9.out.grown hgrow HB9.out.size (fun g hg => (HO9.out.lt g hg).1))
     have HL10 : Hid (Sn wq10 65 (.slice (some ⟨wS.heap.size, 0, none⟩) 1 1) 1 (wrC (a, s))) := jz (by obtain ⟨A, c, h1, h2, h3, h4⟩ := HL9.out; refine ⟨A, c, h1, h2, h3, fun hp => ?_⟩; obtain ⟨b, o, h5, h6⟩ := h4 hp; refine ⟨b, o, h5, fun j u hj => hgrow.cell (h6 j u hj) (fun e => ?_)⟩; exact HNE9.out b (by rw [h1, h5]; rfl) e.symm)
     clear hown hgrow hblk
     refine ⟨HM.out _ HB10.out, fun _ => ?_⟩
     simp only [j1, j2, j3, j4, j5]
     refine jW [8] ?_
     refine rAppR 8 tRWr (.tmp 37) (.tmp 41) (some 42) (by kernel_rfl) (by kernel_rfl) (by rfl) HO10.out (by rfl) HL10.out (wrC_one (a, s)) (by unfold maxLen; omega) (by omega) HB10.out.size (fun v11 wq11 hown hgrow hblk => ?_) jN
     obtain ⟨a11, c11, hv11, _, _⟩ := own_snD hown
     subst hv11
     have HO11 := Lib.hid hown
     have HB11 : Hid (Below wS.heap.size wS wq11) := jz (HB10.out.grown hgrow HB10.out.size (fun g hg => (HO10.out.lt g hg).1))
     clear hown hgrow hblk
     refine ⟨HM.out _ HB11.out, fun _ => ?_⟩
     simp only [j1, j2, j3, j4, j5]
     refine jT 9 (.fieldAddr 31 (.tmp 12) 1) (some 43) (.pointer (some ⟨g, 1, none⟩)) (by assumption) ?_
     simp only [j1, j2, j3, j4, j5]
     refine jW [10] ?_
     have HFI := jz (HFIN.out wq11 (.slice a11 (r.opn.length + 1) c11) HB11.out HO11.out)
     have hcg := (HGS.out.keep HB11.out).cell 1
     have hfg := (HGS.out.keep HB11.out).frozen 1
     rw [HCE.out (rstep r) rfl rfl rfl] at hcg
     simp only [List.getElem?_toArray, List.getElem?_cons_succ, List.getElem?_cons_zero] at hcg
     refine rSkipR 10 (Op.store 28 (Operand.tmp 43) (Operand.tmp 42)) none (wq11.setCell ⟨g, 1, none⟩ (.slice a11 (r.opn.length + 1) c11)) (by kernel_rfl) (by kernel_rfl) (fun o ho => by unfold execOp; simp only [ho]; go_simp) ((HM.out _ HB11.out).setCell (Nat.le_refl _) _) ?_ jN
     simp only [j1, j2, j3, j4, j5]
     refine wpAnyH_done (by kernel_rfl) ?_ _
     go_wp2_with fail
     go_meet
     exact ⟨_, HFI⟩
  case rest =>
  obtain ⟨mo, HX⟩ := hcut
  have hlt := HX.out.lt
  have hrG := HX.out.bg.range
  have hrA := HX.out.ba.range
  have hone1 := refC_one (w := w) (m := m) (r := rstep r) HRS.out
  have hone2 := refC_one HX.out.k
  have HNR : Hid (w.heap.size + 2 ∉ rowsOf ⟨m.sv, mo, m.pv⟩ (radd (rstep r) a s) ∧ w.heap.size + 2 ∉ rowsOf m (rstep r)) := Lib.hid ⟨fun hm => by
   rcases HX.out.rows _ hm with h | h
   ·have := HK.out.bl _ h; omega
   ·omega, fun hm => by have := HK.out.bl _ hm; omega⟩
  cases cr with
  | true =>
   have HV : Hid (rwriteD r a s = rcrashD (radd (rstep r) a s) cu ∧ rwriteA r a = 12) := jz (by unfold rwriteD rwriteA; rw [HDN.out, ← HSF.out]; exact ⟨rfl, rfl⟩)
   have hsc := stepF_cuts HK.out
   rw [← HSF.out] at hsc
   have HP := jz (ref_crash ⟨m.sv, mo, m.pv⟩ (radd (rstep r) a s) cv cu wc HX.out.k (hsc.1.below HX.out.bw) hsc.2.1 hsc.2.2)
   clear hsc
   go_wp2_with (first
    | (refine ld 31 _ rfl rfl rfl hrG Tryz.underlying31 rfl (hlen _ _) ?_)
    | (go_at_call 34; refine HP.out.mono ?_; rintro e w6 ⟨m6, rfl, hk6, hb6, hr6⟩)
    | (refine stBlk (cells := refC m6 (rcrashD (radd (rstep r) a s) cu)) 31 (.tmp 6) (.tmp 47) rfl rfl rfl rfl (HX.out.bb.keep hb6) refI rfl (refC_one hk6) ?_; intro w7 hB7 hb7 ho7 hs7; have HB7 := Lib.hid hB7; have HE7 := Lib.hid hb7; have HO7 := Lib.hid ho7; have HS7 := Lib.hid hs7; clear hB7 hb7 ho7 hs7))
   have hbw : Below w.heap.size w w7 := (bstep HX.out.bw hb6).trans (HE7.out.mono (by omega))
   have hr7 := HB7.out.range
   have hsub : ∀ b ∈ rowsOf m6 (rcrashD (radd (rstep r) a s) cu), b ∈ rowsOf m r ∨ w.heap.size + 3 ≤ b := fun b hm => by
    rcases hr6 b hm with h | h
    ·rcases HX.out.rows b h with h | h
     ·exact .inl h
     ·exact .inr (by omega)
    ·have := HX.out.bb.lt; have := HX.out.bg.lt; exact .inr (by omega)
   refine bodyPost_ret (results_cell1 rfl _ rfl hr7 Tryz.underlying31 rfl (hlen _ _)) rfl ⟨m6, by rw [HV.out.1, HV.out.2]; rfl, by
    rw [HV.out.1]
    exact hk6.offK HO7.out (by rw [HS7.out]; exact Nat.le_refl _) (fun hm => by
     rcases hsub _ hm with h | h
     ·have := HK.out.bl _ h; omega
     ·omega), hbw, fun b hm => by
    rw [HV.out.1] at hm
    rcases hsub b hm with h | h
    ·exact .inl h
    ·exact .inr (by omega)⟩
  | false =>
   cases fl with
   | true =>
    have HV : Hid (rwriteD r a s = rstep r ∧ rwriteA r a = 11) := jz (by unfold rwriteD rwriteA; rw [HDN.out, ← HSF.out]; exact ⟨rfl, rfl⟩)
    go_wp2_with (first
     | (refine ld 31 _ rfl rfl rfl hrA Tryz.underlying31 rfl (hlen _ _) ?_)
     | (refine stBlk (cells := refC m (rstep r)) 31 (.tmp 6) (.tmp 49) rfl rfl rfl rfl HX.out.bb refI rfl hone1 ?_; intro w7 hB7 hb7 ho7 hs7; have HB7 := Lib.hid hB7; have HE7 := Lib.hid hb7; clear hB7 hb7 ho7 hs7))
    have hbw : Below w.heap.size w w7 := HX.out.bw.trans (HE7.out.mono (by omega))
    have hr7 := HB7.out.range
    exact bodyPost_ret (results_cell1 rfl _ rfl hr7 Tryz.underlying31 rfl (hlen _ _)) rfl ⟨m, by rw [HV.out.1, HV.out.2]; rfl, by rw [HV.out.1]; exact HRS.out.keep hbw, hbw, fun b hm => by rw [HV.out.1] at hm; exact .inl hm⟩
   | false =>
    cases RH with
    | false =>
     have hrh := HRH.out
     have HV : Hid (rwriteD r a s = rstep r ∧ rwriteA r a = 15) := jz (by unfold rwriteD rwriteA radd; rw [HDN.out, ← HSF.out, show rhas (rstep r) a = rhas r a from rfl, hrh]; exact ⟨rfl, rfl⟩)
     go_wp2_with (first
      | (refine ld 31 _ rfl rfl rfl hrA Tryz.underlying31 rfl (hlen _ _) ?_)
      | (refine stBlk (cells := refC m (rstep r)) 31 (.tmp 6) (.tmp 52) rfl rfl rfl rfl HX.out.bb refI rfl hone1 ?_; intro w7 hB7 hb7 ho7 hs7; have HB7 := Lib.hid hB7; have HE7 := Lib.hid hb7; clear hB7 hb7 ho7 hs7))
     have hbw : Below w.heap.size w w7 := HX.out.bw.trans (HE7.out.mono (by omega))
     have hr7 := HB7.out.range
     exact bodyPost_ret (results_cell1 rfl _ rfl hr7 Tryz.underlying31 rfl (hlen _ _)) rfl ⟨m, by rw [HV.out.1, HV.out.2]; rfl, by rw [HV.out.1]; exact HRS.out.keep hbw, hbw, fun b hm => by rw [HV.out.1] at hm; exact .inl hm⟩
    | true =>
     have hrh := HRH.out
     have HV : Hid (rwriteD r a s = radd (rstep r) a s ∧ rwriteA r a = 0) := jz (by unfold rwriteD rwriteA; rw [HDN.out, ← HSF.out, hrh]; exact ⟨rfl, rfl⟩)
     go_wp2_with (first
      | (refine ld 31 _ rfl rfl rfl hrG Tryz.underlying31 rfl (hlen _ _) ?_)
      | (refine stBlk (cells := refC ⟨m.sv, mo, m.pv⟩ (radd (rstep r) a s)) 31 (.tmp 6) (.tmp 53) rfl rfl rfl rfl HX.out.bb refI rfl hone2 ?_; intro w7 hB7 hb7 ho7 hs7; have HB7 := Lib.hid hB7; have HE7 := Lib.hid hb7; have HO7 := Lib.hid ho7; have HS7 := Lib.hid hs7; clear hB7 hb7 ho7 hs7))
     have hbw : Below w.heap.size w w7 := HX.out.bw.trans (HE7.out.mono (by omega))
     have hr7 := HB7.out.range
     exact bodyPost_ret (results_cell1 rfl _ rfl hr7 Tryz.underlying31 rfl (hlen _ _)) rfl ⟨⟨m.sv, mo, m.pv⟩, by rw [HV.out.1, HV.out.2]; rfl, by rw [HV.out.1]; exact HX.out.k.offK HO7.out (by rw [HS7.out]; exact Nat.le_refl _) HNR.out.1, hbw, fun b hm => by
      rw [HV.out.1] at hm
      rcases HX.out.rows b hm with h | h
      ·exact .inl h
      ·exact .inr (by omega)⟩
end Go.Proofs.YtillkpjflcgkeaaGreat
