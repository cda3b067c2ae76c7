import Derived.Test.YtillkpjflcgkeaaGreatMT41
import Derived.Test.YtillkpjflcgkeaaGreatMT42
set_option linter.unusedSimpArgs false
set_option maxRecDepth 100000
namespace Go.Proofs.YtillkpjflcgkeaaGreat
open Go.RowKit
attribute [local irreducible] wpQuiet wpAnyH
def RT (w0 W : World) (gz k : Nat) : Prop := ∃ m d lv ev lo lg mr r v L, RX w0 W gz 10 k m d lv ev lo lg mr r v L
theorem log_side (w : World) (gl g h : Nat) (L : LogD) (k : LogP w gl g h L) : Calls Tryz.prog 17 #[.pointer (some ⟨gl, 0, none⟩)] w fun e w' => e = .returned (.int .i64 L.side) ∧ w' = w := by
 have c8 : w.cell? ⟨gl, 5, none⟩ = some (.int .i64 L.side) := (Blk.cell k 5).trans rfl
 go_enter Tryz.func17, Tryz.ntmps17
 go_wp2_with fail
 go_ret
 exact ⟨rfl, rfl⟩
set_option maxHeartbeats 40000000 in
theorem twice_any (A : Option Addr) (cap : Nat) (l : List Op19) (w : World) (hs : Sn w 38 (.slice A l.length cap) l.length (l.flatMap opC19)) (hok : ∀ o ∈ l, Op19Ok w o) (hl : l.length ≤ 9223372036854775807) :
  Calls Tryz.prog 4 #[.slice A l.length cap] w fun e w' => e = .returned (.bool true) ∧ Below w.heap.size w w' := by
 have HS := Lib.hid hs
 have HOK := Lib.hid hok
 clear hs hok
 go_enter Tryz.func4, Tryz.ntmps4
 go_wp2_with fail
 refine (awake19 w).mono ?_
 rintro e w1 ⟨rfl, hb1⟩
 have HF := jz (few19 A cap l w1 (HS.out.below hb1) (fun o ho => (HOK.out o ho).keep hb1) hl)
 have HB1 := Lib.hid hb1
 clear hb1
 go_wp2_with fail
 refine HF.out.mono ?_
 rintro e w2 ⟨fb, rfl, hb2, hfw⟩
 have HB2 := jz (bstep HB1.out hb2)
 have HFW := Lib.hid hfw
 clear hb2 HF hfw HB1
 cases fb with
 | false =>
  go_wp2_with fail
  refine (awake19 w2).mono ?_
  rintro e w3 ⟨rfl, hb3⟩
  go_wp2_with fail
  go_ret
  exact ⟨rfl, bstep HB2.out hb3⟩
 | true =>
 have HFE := jz (HFW.out rfl)
 have hl40 := HFE.out.1
 clear HFW
 have HNW := jz (disk_new 10 w2 (by omega) (by omega))
 have HNR := jz (fun W => ref_new 10 W (by omega))
 go_wp2_with fail
 refine HNW.out.mono ?_
 rintro e w3 ⟨m, rfl, hk3, hb3, hf3⟩
 have HST3 : Hid (St w2 w3 m (newD 10)) := Lib.hid ⟨hk3, hf3, hb3⟩
 clear hk3 hb3 hf3
 go_wp2_with fail
 refine (HNR.out w3).mono ?_
 rintro e w4 ⟨mr, rfl, hk4, hb4, hf4⟩
 have HPB4 := jz (pb_new HST3.out hb4 hk4 hf4)
 obtain ⟨r0, hr0⟩ : ∃ x, x = rnewD 10 := ⟨_, rfl⟩
 rw [← hr0] at HPB4 ⊢
 have HR0 := Lib.hid hr0
 obtain ⟨C0, hC0⟩ : ∃ C, C = prC m.g (.pointer none) (.slice none 0 0) mr r0 (.slice none 0 0) rl0 := ⟨_, rfl⟩
 have HC0 := Lib.hid hC0
 obtain ⟨X0, hX0⟩ : ∃ X, X = refC mr r0 := ⟨_, rfl⟩
 have hblt := builtPr m.g mr r0
 rw [← hX0, ← hC0] at hblt
 have HBLT := Lib.hid hblt
 rw [← hX0]
 have hone4 : C0.all (·.oneCell') = true := by rw [hC0]; exact prC_one (g := m.g) HPB4.out
 have hsz1 : (Tryz.prog.info? 39).map (·.size) = some C0.size := by rw [hC0]; exact prI
 have hsz2 : prZ.size = C0.size := by rw [hC0]; rfl
 clear hk4 hb4 hf4 hr0 hC0 hX0 hblt
 go_upto_region 4 with (first
  | (refine bld 39 _ rfl rfl rfl HBLT.out ?_)
  | (refine al 39 prZ rfl rfl zeroPr ?_)
  | (refine stNew (cells := C0) 39 (.tmp 3) (.tmp 25) rfl rfl (by rfl) (by rfl) hsz1 hsz2 hone4 ?_; intro w5 hB5 hb5 hs5))
 rw [HC0.out] at hB5
 obtain ⟨gz, hgz⟩ : ∃ g, g = w4.heap.size := ⟨_, rfl⟩
 have HRR : Hid (RT w2 w5 gz 0) := jz (by
  have hpb := HPB4.out
  exact ⟨m, newD 10, _, _, none, none, mr, r0, _, rl0, hpb.keep hb5, by rw [hgz]; exact hB5, Free.fresh hpb (by omega), by have := hpb.st.bel.size; omega, Nat.zero_le _, by rw [HR0.out]; show (0 : Int) ≤ _; omega, by rw [HR0.out]; exact Nat.zero_le _, by rw [HR0.out]; exact Nat.zero_le _, List.length_replicate, by rw [HR0.out]; exact List.length_replicate⟩)
 have hc0 : w5.cell? ⟨gz, 0, none⟩ = some (.pointer (some ⟨m.g, 0, none⟩)) := by rw [hgz]; exact (Blk.cell hB5 0).trans rfl
 rw [← hgz]
 clear hB5 hb5 hs5 hgz HST3 HPB4 HNW HNR hone4 hsz1 hsz2
 go_wp2_with fail
 clear hc0
 go_loopw [4] (fun i wr => ∃ k : Nat, k ≤ l.length ∧ i = .int .i64 k ∧ Hid (RT w2 wr gz k)) (fun i _ => l.length - (intOf i).toNat)
 case atStart => exact ⟨0, Nat.zero_le _, rfl, HRR⟩
 case round =>
  clear HRR
  obtain ⟨k, hk, rfl, HR⟩ := hrel
  have hbw : Below w.heap.size w wr := by obtain ⟨m, d, lv, ev, lo, lg, mr, r, v, L, h1⟩ := HR.out; exact bstep HB2.out h1.pb.st.bel
  have HBW := Lib.hid hbw
  rcases Nat.lt_or_ge k l.length with hlt | hge
  ·have ho := HOK.out _ (List.getElem_mem hlt)
   obtain ⟨b, off, hA, hr⟩ := op_at19 (HS.out.below hbw) (fun o ho => opC19_length o (HOK.out o ho)) k hlt
   subst hA
   have hfe := HFE.out.2 _ (List.getElem_mem hlt)
   have hob : ∀ W, Below w.heap.size w W → W.rangeAt b (off + k * 38) (opC19 l[k]) := fun W hb => by
    obtain ⟨b', off', hA', hr'⟩ := op_at19 (HS.out.below hb) (fun o ho => opC19_length o (HOK.out o ho)) k hlt
    injection hA' with hA'
    injection hA' with h1 h2 _
    subst h1 h2
    exact hr'
   obtain ⟨o, hoe⟩ : ∃ o, o = l[k] := ⟨_, rfl⟩
   rw [← hoe] at ho hr hfe hob
   clear hoe
   have h38 := opC19_length o ho
   have HOI := jz (opI19 o h38)
   have HO := Lib.hid ho
   have HFO := Lib.hid hfe
   have HOB := Lib.hid hob
   have hi0 : (0 : Int) ≤ k := by omega
   have hi1 : (k : Int) < l.length := by omega
   clear ho hfe hob hr hbw h38
   go_upto_region 9 with fail
   obtain ⟨m, d, lv, ev, lo, lg, mr, r, v, L, hx⟩ := HR.out
   obtain ⟨wS, hwS⟩ : ∃ wS, wS = wr.drew := ⟨_, rfl⟩
   have hbS : Below wr.heap.size wr wS := by rw [hwS]; exact (Below.refl _ _).drew
   have HXS := jz (hx.keep hbS)
   have HBS := jz (bstep HBW.out hbS)
   have hlenP : (Tryz.prog.info? 39).map (·.size) = some (prC m.g lv ev mr r v L).toList.length := prI
   clear hx hbS
   refine held_start 10 (fun W => Below w.heap.size w W) (by kernel_rfl) (by kernel_rfl) (by rw [← hwS]; exact HBS.out) (fun hHeld => ?_)
   rw [← hwS] at hHeld ⊢
   clear hwS
   refine jM 1 (.tmp 0) (some 37) (.slice (some ⟨b, off, none⟩) l.length cap) hHeld ?_
   simp only [j1, j2, j3, j4, j5]
   refine jM 2 (.tmp 4) (some 38) (.int .i64 k) hHeld ?_
   simp only [j1, j2, j3, j4, j5]
   refine jT 3 (.indexAddr 22 (.tmp 37) (.tmp 38)) (some 39) (.pointer (some ⟨b, off + k * 38, none⟩)) hHeld ?_
   simp only [j1, j2, j3, j4, j5]
   refine jL 4 46 (.tmp 39) (some 40) (cs := opC19 o) (fun _ hX => HOB.out _ hX) Tryz.underlying46 rfl HOI.out hHeld ?_
   simp only [j1, j2, j3, j4, j5]
   refine jW [0] ?_
   refine rLoadS 0 39 (.tmp 3) (some 36) (cs := (prC m.g lv ev mr r v L).toList) (by kernel_rfl) (by kernel_rfl) (by exact rfl) HXS.out.b.range Tryz.underlying39 rfl hlenP HBS.out ?_ jN
   simp only [j1, j2, j3, j4, j5]
   refine jW [5] ?_
   refine jC 5 (.call { callee := .value (.func 9), args := #[.tmp 36, .tmp 40], argTypes := #[39, 46] }) (some 41) 9 (#[.agg (prC m.g lv ev mr r v L), .agg (opC19 o).toArray]) ?_ jN
   refine (play_any o HXS.out.pb (HO.out.keep HB2.out) HFO.out (by have := HXS.out.rm; omega) (by have := HXS.out.rs; omega) (by have := HXS.out.ro; omega) (by have := HXS.out.rp; omega) (by have := HXS.out.dl; omega) (by have := HXS.out.rl; omega)).mono ?_
   rintro e w6 ⟨m', lv', ev', lo', mr', v', vp, bb, rfl, hg6, hx6⟩
   have HX6 := Lib.hid hx6
   have HG6 := Lib.hid hg6
   have HB6 : Hid (Blk w6 gz 39 (prC m.g lv ev mr r v L)) := jz (by obtain ⟨gl, ht, hg⟩ := hx6.lt; exact HXS.out.f.blk HXS.out.b ht hg)
   have HW6 : Hid (Below w.heap.size w w6) := jz (bstep HB2.out hx6.pb.st.bel)
   clear hx6 hg6
   refine ⟨_, rfl, HW6.out, fun hHeld => ?_⟩
   simp only [j1, j2, j3, j4, j5]
   refine jM 6 (.tmp 41) (some 35) (.tuple #[.agg (prC m'.g lv' ev' mr' (opR19 r L o vp).1 v' (opR19 r L o vp).2), .bool bb]) hHeld ?_
   simp only [j1, j2, j3, j4, j5]
   refine jT 7 (.extract (.tmp 35) 0) (some 42) (.agg (prC m'.g lv' ev' mr' (opR19 r L o vp).1 v' (opR19 r L o vp).2)) hHeld ?_
   simp only [j1, j2, j3, j4, j5]
   refine jT 8 (.extract (.tmp 35) 1) (some 43) (.bool bb) hHeld ?_
   simp only [j1, j2, j3, j4, j5]
   have HXN := jz (HXS.out.step HX6.out (by have := HFO.out.2.1; omega))
   have hSS : Below w.heap.size w (w6.setCells gz 0 (prC m'.g lv' ev' mr' (opR19 r L o vp).1 v' (opR19 r L o vp).2).toList) := bstep HB2.out HXN.out.pb.st.bel
   refine jW [9] ?_
   refine jR 9 39 (.tmp 3) (.tmp 42) none (cs := (prC m'.g lv' ev' mr' (opR19 r L o vp).1 v' (opR19 r L o vp).2).toList) (there_all HB6.out rfl) prI (list_oneO (prC_one HX6.out.pb)) hSS ?_ jN
   simp only [j1, j2, j3, j4, j5]
   refine wpAnyH_done (by kernel_rfl) ?_ _
   obtain ⟨wz, hwz⟩ : ∃ wz, wz = (w6.setCells gz 0 (prC m'.g lv' ev' mr' (opR19 r L o vp).1 v' (opR19 r L o vp).2).toList) := ⟨_, rfl⟩
   rw [← hwz] at HXN ⊢
   clear hwz hSS
   have HRN : Hid (RT w2 wz gz (k + 1)) := Lib.hid ⟨_, _, _, _, _, _, _, _, _, _, HXN.out⟩
   go_wp2_with fail
   exact ⟨⟨k + 1, by omega, by go_num, HRN⟩, by simp [intOf]; omega⟩
  ·obtain rfl : k = l.length := by omega
   obtain ⟨m, d, lv, ev, lo, lg, mr, r, v, L, hx⟩ := HR.out
   have HST := Lib.hid hx.pb.st
   have HDO := Lib.hid hx.pb.st.dk.ok
   have hdl := hx.dl
   have hrm := hx.rm
   obtain ⟨C, hC⟩ : ∃ C, C = prC m.g lv ev mr r v L := ⟨_, rfl⟩
   have HC0 : Hid (C[0]? = some (.pointer (some ⟨m.g, 0, none⟩))) := jz (by rw [hC]; rfl)
   have HPB : Hid (BK wr m none gz 39 C) := Lib.hid ⟨by rw [hC]; exact hx.b, hx.f.1, fun e => (by cases e)⟩
   clear hx hC HBW hbw HR
   have c0 : wr.cell? ⟨gz, 0, none⟩ = some (.pointer (some ⟨m.g, 0, none⟩)) := (HPB.out.b.cell 0).trans HC0.out
   have HFL := jz (disk_start wr m d HST.out.dk)
   go_wp2_with fail
   refine HFL.out.mono ?_
   rintro e w5 ⟨rfl, hk5, ht5⟩
   have HS5 := jz (HST.out.next hk5 ht5)
   have HP5 := jz (HPB.out.dt ht5)
   obtain ⟨d0, hd0⟩ : ∃ x, x = startD d := ⟨_, rfl⟩
   have hl0 : d0.sec.length = 10 := by rw [hd0]; exact hdl
   have hr0 : d0.room ≤ 2400 := by rw [hd0]; show d.room ≤ _; omega
   rw [← hd0] at HS5
   clear hk5 ht5 HFL c0 HST HPB HDO hdl hrm hd0
   have c0 : w5.cell? ⟨gz, 0, none⟩ = some (.pointer (some ⟨m.g, 0, none⟩)) := (HP5.out.b.cell 0).trans HC0.out
   have HO5 := jz (log_open w5 m d0 HS5.out.dk (by omega))
   go_wp2_with fail
   refine HO5.out.mono ?_
   rintro e w6 ⟨pl, ve, m6, rfl, hk6, ht6, how6⟩
   have HS6 := jz (HS5.out.next hk6 ht6)
   have HP6 := jz (HP5.out.dt ht6)
   have HG6 : Hid (C[0]? = some (.pointer (some ⟨m6.g, 0, none⟩))) := jz (by rw [ht6.g]; exact HC0.out)
   have hr1 : (openR d0).2.1.room ≤ 2404 := by have := openR_bd HS5.out.dk.ok.st; omega
   have hl1 : (openR d0).2.1.sec.length = 10 := by rw [openR_len]; exact hl0
   have c6 : w6.cell? ⟨gz, 0, none⟩ = some (.pointer (some ⟨m6.g, 0, none⟩)) := (HP6.out.b.cell 0).trans HG6.out
   have HO6 := jz (log_open w6 m6 (openR d0).2.1 HS6.out.dk (by omega))
   have HT6 := jz (disk_steps w6 m6 (openR d0).2.1 HS6.out.dk)
   clear hk6 ht6 HO5 c0
   cases hA1 : (openR d0).1 with
   | some y =>
    obtain ⟨ti, ui, hv⟩ := valE_form y
    rw [hv]
    have hnt := neq_nil ti ui
    clear how6 hv
    go_wp2_with fail
    refine HT6.out.mono ?_
    rintro e wq ⟨rfl, hwq⟩
    rw [hwq]
    clear hwq wq
    go_wp2_with fail
    refine HO6.out.mono ?_
    rintro e w7 ⟨pl2, ve2, m7, rfl, hk7, ht7, _⟩
    have HB7 := jz (bstep HB2.out (HS6.out.next hk7 ht7).bel)
    clear hk7 ht7
    go_wp2_with fail
    go_ret
    exact ⟨rfl, HB7.out⟩
   | none =>
    have hv0 : valE none = .nilIface := rfl
    rw [hv0]
    obtain ⟨L1, es, L', h1, hf⟩ := open_first (by omega) HS5.out.dk.ok hA1
    unfold OpenW at how6
    rw [h1, hl0] at how6
    obtain ⟨gl1, rfl, hlk1, hgl1, hown1, hok1, hoa1⟩ := how6
    have HFI := Lib.hid hf
    have HE6 := jz (EK.own hown1 (fun b e => (hoa1 b e).1))
    have HL6 : Hid (BK w6 m6 none gl1 88 (logC m6.g (10 / 2) L1)) := Lib.hid ⟨hlk1.blk, hlk1.ap, fun e => (by cases e)⟩
    have HOK := Lib.hid hok1
    have hes : es.length ≤ 10 := by have := hf.le; omega
    obtain ⟨d1, hd1⟩ : ∃ x, x = (openR d0).2.1 := ⟨_, rfl⟩
    rw [← hd1] at HS6 HO6 HT6 HFI hr1 hl1
    clear hlk1 hgl1 hown1 hok1 hoa1 h1 hf hA1 hd1
    go_wp2_with fail
    refine HT6.out.mono ?_
    rintro e wq ⟨rfl, hwq⟩
    rw [hwq]
    clear hwq wq HT6
    go_wp2_with fail
    refine HO6.out.mono ?_
    rintro e w7 ⟨pl2, ve2, m7, rfl, hk7, ht7, how7⟩
    have HS7 := jz (HS6.out.next hk7 ht7)
    have HT7 := Lib.hid ht7
    clear hk7 ht7 HO6 c6
    cases hA2 : (openR d1).1 with
    | some y =>
     obtain ⟨ti, ui, hv⟩ := valE_form y
     rw [hv]
     have hnt := neq_nil ti ui
     have HB7 := jz (bstep HB2.out HS7.out.bel)
     clear how7 hv
     go_wp2_with fail
     go_ret
     exact ⟨rfl, HB7.out⟩
    | none =>
     rw [hv0]
     obtain ⟨h2, hst2, hsec2, hstill⟩ := tw_two HFI.out (by omega) hA2
     unfold OpenW at how7
     rw [h2, hl1] at how7
     obtain ⟨gl2, rfl, hlk2, hgl2, hown2, hok2, hoa2⟩ := how7
     have HE7 := jz ((HE6.out.re hgl2).dt HT7.out)
     have HL7 := jz ((HL6.out.re hgl2).dt HT7.out)
     have HP7 := jz ((HP6.out.re hgl2).dt HT7.out)
     have HF7 : Hid (Sn w7 33 ve2 es.length (es.flatMap entP)) := jz (Sn.own hown2)
     have HK7 := Lib.hid hlk2
     have hg2 : w2.heap.size ≤ gl2 := by have := HS6.out.bel.size; omega
     have HG7 : Hid (C[0]? = some (.pointer (some ⟨m7.g, 0, none⟩))) := jz (by rw [HT7.out.g]; exact HG6.out)
     have hr2 : (openR d1).2.1.room ≤ 2408 := by have := openR_bd HS6.out.dk.ok.st; omega
     have hl2 : (openR d1).2.1.sec.length = 10 := by rw [openR_len]; exact hl1
     have HST2 : Hid ((openR d1).2.1.steps = d1.steps + 1) := Lib.hid hst2
     have HSE2 := Lib.hid hsec2
     have HSL2 := Lib.hid hstill
     obtain ⟨d2, hd2⟩ : ∃ x, x = (openR d1).2.1 := ⟨_, rfl⟩
     rw [← hd2] at HS7 HK7 hr2 hl2 HST2 HSE2 HSL2
     obtain ⟨Af, cf, hef⟩ : ∃ A c, ve2 = .slice A es.length c := by obtain ⟨A, c, e, _⟩ := HF7.out; exact ⟨A, c, e⟩
     subst hef
     have hgen : L'.gen = L1.gen := HFI.out.gn
     have hsid : L'.side = L1.side := HFI.out.sd
     have HGE := Lib.hid hgen
     have HSI := Lib.hid hsid
     have hsr := HS6.out.dk.ok.st
     have hs0 : (0 : Int) ≤ d1.steps := by omega
     have hs1 : (d1.steps : Int) ≤ 2404 := by omega
     have c7 : w7.cell? ⟨gz, 0, none⟩ = some (.pointer (some ⟨m7.g, 0, none⟩)) := (HP7.out.b.cell 0).trans HG7.out
     have hsm := same_any ve (.slice Af es.length cf) es es w7 HE7.out.sn HOK.out HF7.out HOK.out (by omega) (by omega)
     rw [decide_eq_true (rfl : es = es)] at hsm
     have HSM := Lib.hid hsm
     clear hsm
     clear HE6 HL6 HP6 hlk2 hgl2 hown2 hok2 hoa2 h2 hst2 hsec2 hstill hgen hsid hsr hd2 hA2 HT7 c7
     go_wp2_with fail
     refine HSM.out.mono ?_
     rintro e w8 ⟨rfl, hb8⟩
     have HS8 := jz (HS7.out.keep hb8)
     have HE8 := jz (HE7.out.keep hb8)
     have HL8 := jz (HL7.out.keep hb8)
     have HP8 := jz (HP7.out.keep hb8)
     have HF8 : Hid (Sn w8 33 (.slice Af es.length cf) es.length (es.flatMap entP)) := jz (HF7.out.below hb8)
     have HK8 := jz (HK7.out.keep hb8)
     clear hb8 HS7 HE7 HL7 HP7 HF7 HK7 HSM
     have c8 : w8.cell? ⟨gz, 0, none⟩ = some (.pointer (some ⟨m7.g, 0, none⟩)) := (HP8.out.b.cell 0).trans HG7.out
     have HT8 := jz (disk_steps w8 m7 d2 HS8.out.dk)
     rw [HST2.out] at HT8
     have HGA := jz (log_generation w8 gl1 _ _ L1 HL8.out.b)
     have HGB := jz (log_generation w8 gl2 _ _ L' HK8.out.blk)
     rw [HGE.out] at HGB
     have HSA := jz (log_side w8 gl1 _ _ L1 HL8.out.b)
     have HSB := jz (log_side w8 gl2 _ _ L' HK8.out.blk)
     rw [HSI.out] at HSB
     go_wp2_with (first
      | (go_at_call 15; refine HT8.out.mono ?_; rintro e wq ⟨rfl, hwq⟩; rw [hwq]; clear hwq wq)
      | (refine HGA.out.mono ?_; rintro e wq ⟨rfl, hwq⟩; rw [hwq]; clear hwq wq)
      | (refine HGB.out.mono ?_; rintro e wq ⟨rfl, hwq⟩; rw [hwq]; clear hwq wq)
      | (refine HSA.out.mono ?_; rintro e wq ⟨rfl, hwq⟩; rw [hwq]; clear hwq wq)
      | (refine HSB.out.mono ?_; rintro e wq ⟨rfl, hwq⟩; rw [hwq]; clear hwq wq))
     have hrw := log_rewrite es Af cf w8 m7 d2 gl2 _ L' HK8.out HF8.out HOK.out (by omega) (by omega)
     refine hrw.mono ?_
     rintro e w9 ⟨rfl, m9, hk9, ht9⟩
     have HS9 := jz (HS8.out.lt9 hk9.dk ht9 hg2)
     have HE9 := jz (HE8.out.lt ht9 (.inl rfl))
     have HL9 := jz (HL8.out.lt ht9 (.inl rfl))
     have HP9 := jz (HP8.out.lt ht9 (.inl rfl))
     have HG9 : Hid (C[0]? = some (.pointer (some ⟨m9.g, 0, none⟩))) := jz (by rw [ht9.g]; exact HG7.out)
     have hr3 := rewR_bd HS8.out.dk.ok.st (10 / 2) L' es
     have hl3 : (rewR d2 (10 / 2) L' es).2.1.sec.length = 10 := by rw [rewR_len]; exact hl2
     clear hrw hk9 ht9 HE8 HL8 HP8 HF8 HK8 HT8 HGA HGB HSA HSB c8
     cases hR : (rewR d2 (10 / 2) L' es).1 with
     | some y =>
      obtain ⟨ti, ui, hv⟩ := valE_form y
      rw [hv]
      have hnt := neq_nil ti ui
      have HB9 := jz (bstep HB2.out HS9.out.bel)
      clear hv
      go_wp2_with fail
      go_ret
      exact ⟨rfl, HB9.out⟩
     | none =>
      rw [hv0]
      have c9 : w9.cell? ⟨gz, 0, none⟩ = some (.pointer (some ⟨m9.g, 0, none⟩)) := (HP9.out.b.cell 0).trans HG9.out
      have HO9 := jz (log_open w9 m9 (rewR d2 (10 / 2) L' es).2.1 HS9.out.dk (by omega))
      go_wp2_with fail
      refine HO9.out.mono ?_
      rintro e w10 ⟨pl3, ve3, m10, rfl, hk10, ht10, how10⟩
      have HB10 := jz (bstep HB2.out (HS9.out.next hk10 ht10).bel)
      have HE10 := jz (HE9.out.dt ht10)
      have HL10 := jz (HL9.out.dt ht10)
      clear hk10 ht10 HO9 c9
      cases hA3 : (openR (rewR d2 (10 / 2) L' es).2.1).1 with
      | some y =>
       obtain ⟨ti, ui, hv⟩ := valE_form y
       rw [hv]
       have hnt := neq_nil ti ui
       clear hv how10
       go_wp2_with fail
       go_ret
       exact ⟨rfl, HB10.out⟩
      | none =>
       rw [hv0]
       have htw := tw_three HFI.out (by omega) HSE2.out HSL2.out HOK.out (by rw [hl0]; exact hR) (by rw [hl0]; exact hA3)
       rw [hl0] at htw
       obtain ⟨L3, h3, hsd, hgn⟩ := htw
       unfold OpenW at how10
       rw [h3, hl3] at how10
       obtain ⟨gl3, rfl, hlk3, hgl3, hown3, hok3, hoa3⟩ := how10
       have hsm := same_any ve ve3 es es w10 HE10.out.sn HOK.out (Sn.own hown3) HOK.out (by omega) (by omega)
       rw [decide_eq_true (rfl : es = es)] at hsm
       have HSM := Lib.hid hsm
       have HLB := Lib.hid hlk3
       have hsd1 : ((L3.side : Int) != (L1.side : Int)) = true := by
        have hne : ¬ (L3.side : Int) = (L1.side : Int) := by omega
        simpa using hne
       have HSD := Lib.hid hsd1
       have hgn1 : (L1.gen : Int) < (L3.gen : Int) := by omega
       clear hsm hlk3 hgl3 hown3 hok3 hoa3 h3
       go_wp2_with fail
       refine HSM.out.mono ?_
       rintro e w11 ⟨rfl, hb11⟩
       have HB11 := jz (bstep HB10.out hb11)
       have HLA := jz (HL10.out.keep hb11)
       have HLC := jz (HLB.out.keep hb11)
       clear hb11 HSM HLB HL10
       have HGA := jz (log_generation w11 gl1 _ _ L1 HLA.out.b)
       have HGB := jz (log_generation w11 gl3 _ _ L3 HLC.out.blk)
       have HSA := jz (log_side w11 gl1 _ _ L1 HLA.out.b)
       have HSB := jz (log_side w11 gl3 _ _ L3 HLC.out.blk)
       go_wp2_with (first
        | (refine HGA.out.mono ?_; rintro e wq ⟨rfl, hwq⟩; rw [hwq]; clear hwq wq)
        | (refine HGB.out.mono ?_; rintro e wq ⟨rfl, hwq⟩; rw [hwq]; clear hwq wq)
        | (refine HSA.out.mono ?_; rintro e wq ⟨rfl, hwq⟩; rw [hwq]; clear hwq wq)
        | (refine HSB.out.mono ?_; rintro e wq ⟨rfl, hwq⟩; rw [hwq]; clear hwq wq))
       go_ret
       refine ⟨?_, HB11.out⟩
       first
       | rfl
       | (show Ending.returned (Value.bool ((L3.side : Int) != (L1.side : Int))) = _; rw [HSD.out])
end Go.Proofs.YtillkpjflcgkeaaGreat
