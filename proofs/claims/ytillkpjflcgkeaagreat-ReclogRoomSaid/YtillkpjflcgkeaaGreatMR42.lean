import Derived.Test.YtillkpjflcgkeaaGreatMR40
import Derived.Test.YtillkpjflcgkeaaGreatMR41
set_option linter.unusedSimpArgs false
set_option maxRecDepth 100000
namespace Go.Proofs.YtillkpjflcgkeaaGreat
open Go.RowKit
attribute [local irreducible] wpQuiet wpAnyH
theorem builtPr (g : Nat) (m : RM) (r : RefD) : Tryz.prog.built 39 [(0, .pointer (some ⟨g, 0, none⟩)), (3, .agg (refC m r))] = some (prC g (.pointer none) (.slice none 0 0) m r (.slice none 0 0) rl0) := by
 unfold refC prC rl0
 kernel_rfl
theorem pb_new {w2 w3 w4 : World} {m : DiskM} {mr : RM} {N : Nat} (hst : St w2 w3 m (newD N)) (hb : Below w3.heap.size w3 w4) (hk : RK w4 mr (rnewD N)) (hf : ∀ b ∈ rowsOf mr (rnewD N), w3.heap.size ≤ b) : PB19 w2 w4 m (newD N) (.pointer none) (.slice none 0 0) none none mr (rnewD N) (.slice none 0 0) rl0 :=
 ⟨hst.keep hb, .inl ⟨rfl, rfl, rfl⟩, ⟨none, 0, 0, rfl⟩, hk, RLK.zero _, fun b hm => by
  have hb3 : w3.heap.size ≤ b := by
   rcases hm with hm | hm
   ·exact hf b hm
   ·cases hm
  exact ⟨Apart.fresh hst.dk hb3, fun e => by cases e⟩⟩
structure RX (w0 W : World) (gz N k : Nat) (m : DiskM) (d : DiskD) (lv ev : Value) (lo : Option Nat) (lg : Option LogD) (mr : RM) (r : RefD) (v : Value) (L : RLog) : Prop where
 pb : PB19 w0 W m d lv ev lo lg mr r v L
 b : Blk W gz 39 (prC m.g lv ev mr r v L)
 f : Free m lo mr r v gz
 h0 : w0.heap.size ≤ gz
 rm : d.room ≤ 60 * k
 rs : r.steps ≤ (60 * k : Nat)
 ro : r.opn.length ≤ 60 * k
 rp : r.plan.length ≤ 60 * k
 dl : d.sec.length = N
 rl : r.sec.length = N
section
variable {w0 W W' : World} {gz N k : Nat} {m m' : DiskM} {d : DiskD} {lv lv' ev ev' : Value} {lo lo' : Option Nat} {lg : Option LogD} {mr mr' : RM} {r : RefD} {v v' vp : Value} {L : RLog} {o : Op19}
theorem RX.keep (x : RX w0 W gz N k m d lv ev lo lg mr r v L) (hb : Below W.heap.size W W') : RX w0 W' gz N k m d lv ev lo lg mr r v L := ⟨x.pb.keep hb, x.b.keep hb, x.f, x.h0, x.rm, x.rs, x.ro, x.rp, x.dl, x.rl⟩
theorem RX.more (x : RX w0 W gz N k m d lv ev lo lg mr r v L) : RX w0 W gz N (k + 1) m d lv ev lo lg mr r v L := ⟨x.pb, x.b, x.f, x.h0, by have := x.rm; omega, by have := x.rs; omega, by have := x.ro; omega, by have := x.rp; omega, x.dl, x.rl⟩
theorem RX.step (x : RX w0 W gz N k m d lv ev lo lg mr r v L) (k' : XR19 w0 W W' m lo mr r v m' (opD19 d lg o).1 lv' ev' lo' (opD19 d lg o).2 mr' (opR19 r L o vp).1 v' (opR19 r L o vp).2) (hm : o.more.length ≤ 20) :
  RX w0 (W'.setCells gz 0 (prC m'.g lv' ev' mr' (opR19 r L o vp).1 v' (opR19 r L o vp).2).toList) gz N (k + 1) m' (opD19 d lg o).1 lv' ev' lo' (opD19 d lg o).2 mr' (opR19 r L o vp).1 v' (opR19 r L o vp).2 := by
 obtain ⟨gl, ht, hg⟩ := k'.lt
 have hf := x.f.xr x.b.lt k'
 have hB := x.f.blk x.b ht hg
 have h1 := opD_bd (lg := lg) (o := o) x.pb.st.dk.ok.st hm
 have h2 := opR_b (r := r) (L := L) (o := o) (v := vp) hm
 have hb := (setCells_below (b := gz) (Nat.le_refl gz) (prC m'.g lv' ev' mr' (opR19 r L o vp).1 v' (opR19 r L o vp).2).toList 0 W').1
 exact ⟨k'.pb.off hb (fun k hk => setCells_other hk _ _ _) hf x.h0, Blk.setAll _ hB rfl, hf, x.h0, by have := x.rm; omega, by have := x.rs; have := h2.1.1; omega, by have := x.ro; have := h2.1.2.1; omega, by have := x.rp; have := h2.1.2.2; omega, h1.2.trans x.dl, h2.2.trans x.rl⟩
end
def RR (w0 W : World) (gz N k G : Nat) : Prop := ∃ m d lv ev lo lg mr r v L, RX w0 W gz N k m d lv ev lo lg mr r v L ∧ RSt N k G d lg
theorem RR.more {w0 W : World} {gz N k G : Nat} (h : RR w0 W gz N k G) : RR w0 W gz N (k + 1) G := by
 obtain ⟨m, d, lv, ev, lo, lg, mr, r, v, L, h1, h2⟩ := h
 exact ⟨m, d, lv, ev, lo, lg, mr, r, v, L, h1.more, h2.more⟩
set_option maxHeartbeats 40000000 in
theorem room_any (n : Nat) (hn : n ≤ 255) (A : Option Addr) (cap : Nat) (l : List Op19) (w : World) (hs : Sn w 38 (.slice A l.length cap) l.length (l.flatMap opC19)) (hok : ∀ o ∈ l, Op19Ok w o) (hl : l.length ≤ 9223372036854775807) :
  Calls Tryz.prog 3 #[.int .u8 n, .slice A l.length cap] w fun e w' => e = .returned (.bool true) ∧ Below w.heap.size w w' := by
 have HS := Lib.hid hs
 have HOK := Lib.hid hok
 have hni : (n : Int) ≤ 255 := by omega
 clear hs hok
 go_enter Tryz.func3, Tryz.ntmps3
 go_wp2_with fail
 refine (awake19 w).mono ?_
 rintro e w1 ⟨rfl, hb1⟩
 have HF := jz (few19 A cap l w1 (HS.out.below hb1) (fun o ho => (HOK.out o ho).keep hb1) hl)
 have HB1 := Lib.hid hb1
 clear hb1
 go_wp2_with fail
 refine HF.out.mono ?_
 rintro e w2 ⟨fb, rfl, hb2, hfw⟩
 have HB2 := jz (bstep HB1.out hb2)
 have HFW := Lib.hid hfw
 clear hb2 HF hfw HB1
 cases fb with
 | false =>
  go_wp2_with fail
  refine (awake19 w2).mono ?_
  rintro e w3 ⟨rfl, hb3⟩
  go_wp2_with fail
  go_ret
  exact ⟨rfl, bstep HB2.out hb3⟩
 | true =>
 have HFE := jz (HFW.out rfl)
 have hl40 := HFE.out.1
 clear HFW
 obtain ⟨N, hN⟩ : ∃ N : Nat, N = n % 14 := ⟨_, rfl⟩
 have hN13 : N ≤ 13 := by omega
 have HNI : Hid ((n : Int) % 14 = (N : Int)) := jz (by omega)
 clear hN
 go_upto_region 4 with fail
 rw [HNI.out]
 have HNW := jz (disk_new N w2 (Nat.zero_le _) (by omega))
 have HNR := jz (fun W => ref_new N W (by omega))
 go_wp2_with fail
 refine HNW.out.mono ?_
 rintro e w3 ⟨m, rfl, hk3, hb3, hf3⟩
 have HST3 : Hid (St w2 w3 m (newD N)) := Lib.hid ⟨hk3, hf3, hb3⟩
 clear hk3 hb3 hf3
 go_wp2_with fail
 refine (HNR.out w3).mono ?_
 rintro e w4 ⟨mr, rfl, hk4, hb4, hf4⟩
 have HPB4 := jz (pb_new HST3.out hb4 hk4 hf4)
 obtain ⟨r0, hr0⟩ : ∃ x, x = rnewD N := ⟨_, rfl⟩
 rw [← hr0] at HPB4 ⊢
 have HR0 := Lib.hid hr0
 obtain ⟨C0, hC0⟩ : ∃ C, C = prC m.g (.pointer none) (.slice none 0 0) mr r0 (.slice none 0 0) rl0 := ⟨_, rfl⟩
 have HC0 := Lib.hid hC0
 obtain ⟨X0, hX0⟩ : ∃ X, X = refC mr r0 := ⟨_, rfl⟩
 have hblt := builtPr m.g mr r0
 rw [← hX0, ← hC0] at hblt
 have HBLT := Lib.hid hblt
 rw [← hX0]
 have hone4 : C0.all (·.oneCell') = true := by rw [hC0]; exact prC_one (g := m.g) HPB4.out
 have hsz1 : (Tryz.prog.info? 39).map (·.size) = some C0.size := by rw [hC0]; exact prI
 have hsz2 : prZ.size = C0.size := by rw [hC0]; rfl
 clear hk4 hb4 hf4 hr0 hC0 hX0 hblt
 go_upto_region 5 with (first
  | (refine bld 39 _ rfl rfl rfl HBLT.out ?_)
  | (refine al 39 prZ rfl rfl zeroPr ?_)
  | (refine stNew (cells := C0) 39 (.tmp 6) (.tmp 24) rfl rfl (by rfl) (by rfl) hsz1 hsz2 hone4 ?_; intro w5 hB5 hb5 hs5))
 rw [HC0.out] at hB5
 obtain ⟨gz, hgz⟩ : ∃ g, g = w4.heap.size := ⟨_, rfl⟩
 have HRR : Hid (RR w2 w5 gz N 0 0) := jz (by
  have hpb := HPB4.out
  refine ⟨m, newD N, _, _, none, none, mr, r0, _, rl0, ⟨hpb.keep hb5, by rw [hgz]; exact hB5, Free.fresh hpb (by omega), by have := hpb.st.bel.size; omega, Nat.zero_le _, by rw [HR0.out]; show (0 : Int) ≤ _; omega, by rw [HR0.out]; exact Nat.zero_le _, by rw [HR0.out]; exact Nat.zero_le _, List.length_replicate, by rw [HR0.out]; exact List.length_replicate⟩, ?_⟩
  rcases Nat.lt_or_ge N 2 with h | h
  ·exact .inl ⟨h, rfl, List.length_replicate⟩
  ·exact .inr ⟨h, .inl ⟨rfl, sb_new N h (Nat.le_refl _)⟩⟩)
 have hc0 : w5.cell? ⟨gz, 0, none⟩ = some (.pointer (some ⟨m.g, 0, none⟩)) := by rw [hgz]; exact (Blk.cell hB5 0).trans rfl
 rw [← hgz]
 clear hB5 hb5 hs5 hgz HST3 HPB4 HNW HNR hone4 hsz1 hsz2
 go_wp2_with fail
 clear hc0
 go_loopw [7, 8] (fun g i wr => ∃ k G : Nat, k ≤ l.length ∧ i = .int .i64 k ∧ g = .int .u32 G ∧ Hid (RR w2 wr gz N k G)) (fun _ i _ => l.length - (intOf i).toNat)
 case atStart => exact ⟨0, 0, Nat.zero_le _, rfl, rfl, HRR⟩
 case round =>
  clear HRR
  obtain ⟨k, G, hk, rfl, rfl, HR⟩ := hrel
  have hbw : Below w.heap.size w wr := by obtain ⟨m, d, lv, ev, lo, lg, mr, r, v, L, h1, _⟩ := HR.out; exact bstep HB2.out h1.pb.st.bel
  have HBW := Lib.hid hbw
  rcases Nat.lt_or_ge k l.length with hlt | hge
  ·have ho := HOK.out _ (List.getElem_mem hlt)
   obtain ⟨b, off, hA, hr⟩ := op_at19 (HS.out.below hbw) (fun o ho => opC19_length o (HOK.out o ho)) k hlt
   subst hA
   have hfe := HFE.out.2 _ (List.getElem_mem hlt)
   have hob : ∀ W, Below w.heap.size w W → W.rangeAt b (off + k * 38) (opC19 l[k]) := fun W hb => by
    obtain ⟨b', off', hA', hr'⟩ := op_at19 (HS.out.below hb) (fun o ho => opC19_length o (HOK.out o ho)) k hlt
    injection hA' with hA'
    injection hA' with h1 h2 _
    subst h1 h2
    exact hr'
   obtain ⟨o, hoe⟩ : ∃ o, o = l[k] := ⟨_, rfl⟩
   rw [← hoe] at ho hr hfe hob
   clear hoe
   have h38 := opC19_length o ho
   have HOI := jz (opI19 o h38)
   have HO := Lib.hid ho
   have HFO := Lib.hid hfe
   have HOB := Lib.hid hob
   have hi0 : (0 : Int) ≤ k := by omega
   have hi1 : (k : Int) < l.length := by omega
   have c0 : wr.cell? ⟨b, off + k * 38, none⟩ = some (.int .i64 o.kind) := hr 0 _ rfl
   clear ho hfe hob hr hbw h38
   rcases Bool.eq_false_or_eq_true (o.kind == 3) with t3 | t3
   ·have HN5 := Lib.hid HR.out.more
    go_wp2_with fail
    exact ⟨⟨k + 1, G, by omega, by go_num, rfl, HN5⟩, by simp [intOf]; omega⟩
   ·have h3 : o.kind ≠ 3 := by simpa using t3
    have H3 := Lib.hid h3
    clear h3
    go_upto_region 12 with fail
    go_cut [] from 40 to 48 (fun W => Hid (RR w2 W gz N (k + 1) G))
    case first =>
     obtain ⟨m, d, lv, ev, lo, lg, mr, r, v, L, hx, hrs⟩ := HR.out
     obtain ⟨wS, hwS⟩ : ∃ wS, wS = wr.drew := ⟨_, rfl⟩
     have hbS : Below wr.heap.size wr wS := by rw [hwS]; exact (Below.refl _ _).drew
     have HXS := jz (hx.keep hbS)
     have HBS := jz (bstep HBW.out hbS)
     have HRS := Lib.hid hrs
     have hlenP : (Tryz.prog.info? 39).map (·.size) = some (prC m.g lv ev mr r v L).toList.length := prI
     clear hx hrs hbS c0
     refine held_start 10 (fun W => Below w.heap.size w W) (by kernel_rfl) (by kernel_rfl) (by rw [← hwS]; exact HBS.out) (fun hHeld => ?_)
     rw [← hwS] at hHeld ⊢
     clear hwS
     refine jM 1 (.tmp 1) (some 42) (.slice (some ⟨b, off, none⟩) l.length cap) hHeld ?_
     simp only [j1, j2, j3, j4, j5]
     refine jM 2 (.tmp 8) (some 43) (.int .i64 k) hHeld ?_
     simp only [j1, j2, j3, j4, j5]
     refine jT 3 (.indexAddr 22 (.tmp 42) (.tmp 43)) (some 44) (.pointer (some ⟨b, off + k * 38, none⟩)) hHeld ?_
     simp only [j1, j2, j3, j4, j5]
     refine jL 4 46 (.tmp 44) (some 45) (cs := opC19 o) (fun _ hX => HOB.out _ hX) Tryz.underlying46 rfl HOI.out hHeld ?_
     simp only [j1, j2, j3, j4, j5]
     refine jW [0] ?_
     refine rLoadS 0 39 (.tmp 6) (some 41) (cs := (prC m.g lv ev mr r v L).toList) (by kernel_rfl) (by kernel_rfl) (by exact rfl) HXS.out.b.range Tryz.underlying39 rfl hlenP HBS.out ?_ jN
     simp only [j1, j2, j3, j4, j5]
     refine jW [5] ?_
     refine jC 5 (.call { callee := .value (.func 9), args := #[.tmp 41, .tmp 45], argTypes := #[39, 46] }) (some 46) 9 (#[.agg (prC m.g lv ev mr r v L), .agg (opC19 o).toArray]) ?_ jN
     refine (play19 o HXS.out.pb (HO.out.keep HB2.out) HFO.out H3.out (by have := HXS.out.rm; omega) (by have := HXS.out.rs; omega) (by have := HXS.out.ro; omega) (by have := HXS.out.rp; omega) (by have := HXS.out.dl; omega) (by have := HXS.out.rl; omega)).mono ?_
     rintro e w6 ⟨m', lv', ev', lo', mr', v', vp, bb, rfl, hg6, hx6⟩
     have HX6 := Lib.hid hx6
     have HG6 := Lib.hid hg6
     have HB6 : Hid (Blk w6 gz 39 (prC m.g lv ev mr r v L)) := jz (by obtain ⟨gl, ht, hg⟩ := hx6.lt; exact HXS.out.f.blk HXS.out.b ht hg)
     have HW6 : Hid (Below w.heap.size w w6) := jz (bstep HB2.out hx6.pb.st.bel)
     clear hx6 hg6
     refine ⟨_, rfl, HW6.out, fun hHeld => ?_⟩
     simp only [j1, j2, j3, j4, j5]
     refine jM 6 (.tmp 46) (some 40) (.tuple #[.agg (prC m'.g lv' ev' mr' (opR19 r L o vp).1 v' (opR19 r L o vp).2), .bool bb]) hHeld ?_
     simp only [j1, j2, j3, j4, j5]
     refine jT 7 (.extract (.tmp 40) 0) (some 47) (.agg (prC m'.g lv' ev' mr' (opR19 r L o vp).1 v' (opR19 r L o vp).2)) hHeld ?_
     simp only [j1, j2, j3, j4, j5]
     refine jT 8 (.extract (.tmp 40) 1) (some 48) (.bool bb) hHeld ?_
     simp only [j1, j2, j3, j4, j5]
     have HXN := jz (HXS.out.step HX6.out (by have := HFO.out.2.1; omega))
     have hSS : Below w.heap.size w (w6.setCells gz 0 (prC m'.g lv' ev' mr' (opR19 r L o vp).1 v' (opR19 r L o vp).2).toList) := bstep HB2.out HXN.out.pb.st.bel
     refine jW [9] ?_
     refine jR 9 39 (.tmp 6) (.tmp 47) none (cs := (prC m'.g lv' ev' mr' (opR19 r L o vp).1 v' (opR19 r L o vp).2).toList) (there_all HB6.out rfl) prI (list_oneO (prC_one HX6.out.pb)) hSS ?_ jN
     simp only [j1, j2, j3, j4, j5]
     refine wpAnyH_done (by kernel_rfl) ?_ _
     obtain ⟨wz, hwz⟩ : ∃ wz, wz = (w6.setCells gz 0 (prC m'.g lv' ev' mr' (opR19 r L o vp).1 v' (opR19 r L o vp).2).toList) := ⟨_, rfl⟩
     rw [← hwz] at HXN ⊢
     clear hwz hSS
     have HRN : Hid (RR w2 wz gz N (k + 1) G) := Lib.hid ⟨_, _, _, _, _, _, _, _, _, _, HXN.out, rs_step HRS.out HXS.out.pb.st.dk.ok (by omega) HO.out H3.out⟩
     go_wp2_with fail
     go_meet
     exact HRN
    case rest =>
     rename World => wc2
     go_upto_region 13 with fail
     go_cut [67] from 49 to 67 (fun x W => x = .bool false ∧ Hid (RR w2 W gz N (k + 1) G))
     case first =>
      obtain ⟨m, d, lv, ev, lo, lg, mr, r, v, L, hx, hrs⟩ := hcut.out
      rcases hx.pb.lg with ⟨rfl, h2, rfl⟩ | ⟨gl, LL, rfl, h2, rfl, h4, h5⟩
      ·subst h2
       obtain ⟨wS, hwS⟩ : ∃ wS, wS = wc2.drew := ⟨_, rfl⟩
       have hbS : Below wc2.heap.size wc2 wS := by rw [hwS]; exact (Below.refl _ _).drew
       have HXS := jz (hx.keep hbS)
       have HRS := Lib.hid hrs
       have HLV : Hid (∀ W, Blk W gz 39 (prC m.g (.pointer none) ev mr r v L) → W.cell? ⟨gz, 1, none⟩ = some (.pointer none)) := jz (fun W hB => (hB.cell 1).trans rfl)
       clear hx hrs hbS
       refine held_start 19 (fun W => Blk W gz 39 (prC m.g (.pointer none) ev mr r v L)) (by kernel_rfl) (by kernel_rfl) (by rw [← hwS]; exact HXS.out.b) (fun hHeld => ?_)
       rw [← hwS] at hHeld ⊢
       clear hwS
       refine jT 0 (.fieldAddr 39 (.tmp 6) 1) (some 49) (.pointer (some ⟨gz, 1, none⟩)) hHeld ?_
       simp only [j1, j2, j3, j4, j5]
       refine jT 1 (.load 33 (.tmp 49)) (some 50) (.pointer none) (hy := fun o ho wX hX => by have hcell := HLV.out _ hX; unfold execOp; simp only [ho]; go_simp) hHeld ?_
       simp only [j1, j2, j3, j4, j5]
       refine jT 3 (.fieldAddr 39 (.tmp 6) 1) (some 52) (.pointer (some ⟨gz, 1, none⟩)) hHeld ?_
       simp only [j1, j2, j3, j4, j5]
       refine jT 4 (.load 33 (.tmp 52)) (some 53) (.pointer none) (hy := fun o ho wX hX => by have hcell := HLV.out _ hX; unfold execOp; simp only [ho]; go_simp) hHeld ?_
       simp only [j1, j2, j3, j4, j5]
       refine jW [2] ?_
       refine jC 2 (.call { callee := .value (.func 10), args := #[.tmp 50], argTypes := #[33] }) (some 51) 10 (#[.pointer none]) ?_ jN
       refine (log_count_nil wS).mono ?_
       rintro e wq ⟨rfl, hwq⟩
       rw [hwq]
       clear hwq wq
       refine ⟨_, rfl, HXS.out.b, fun hHeld => ?_⟩
       simp only [j1, j2, j3, j4, j5]
       refine jW [5] ?_
       refine jC 5 (.call { callee := .value (.func 11), args := #[.tmp 53], argTypes := #[33] }) (some 54) 11 (#[.pointer none]) ?_ jN
       refine (log_room_nil wS).mono ?_
       rintro e wq ⟨rfl, hwq⟩
       rw [hwq]
       clear hwq wq
       refine ⟨_, rfl, HXS.out.b, fun hHeld => ?_⟩
       simp only [j1, j2, j3, j4, j5]
       refine jT 6 (.binOp .gtr 3 (.tmp 51) (.tmp 54) 3) (some 55) (.bool false) hHeld ?_
       simp only [j1, j2, j3, j4, j5]
       refine jM 7 (.tmp 55) (some 56) (.bool false) hHeld ?_
       simp only [j1, j2, j3, j4, j5]
       refine jT 8 (.fieldAddr 39 (.tmp 6) 1) (some 57) (.pointer (some ⟨gz, 1, none⟩)) hHeld ?_
       simp only [j1, j2, j3, j4, j5]
       refine jT 9 (.load 33 (.tmp 57)) (some 58) (.pointer none) (hy := fun o ho wX hX => by have hcell := HLV.out _ hX; unfold execOp; simp only [ho]; go_simp) hHeld ?_
       simp only [j1, j2, j3, j4, j5]
       refine jT 10 (.binOp .neq 33 (.tmp 58) (.const (.pointer none)) 33) (some 59) (.bool false) hHeld ?_
       simp only [j1, j2, j3, j4, j5]
       refine jM 11 (.tmp 59) (some 60) (.bool false) hHeld ?_
       simp only [j1, j2, j3, j4, j5]
       refine jK 12 (some 61) hHeld ?_
       simp only [j1, j2, j3, j4, j5]
       refine jK 13 (some 62) hHeld ?_
       simp only [j1, j2, j3, j4, j5]
       refine jK 15 (some 64) hHeld ?_
       simp only [j1, j2, j3, j4, j5]
       refine jK 14 (some 63) hHeld ?_
       simp only [j1, j2, j3, j4, j5]
       refine jK 16 (some 65) hHeld ?_
       simp only [j1, j2, j3, j4, j5]
       refine jT 17 (.pick (.tmp 60) (.tmp 65) (.const (.bool false))) (some 66) (.bool false) hHeld ?_
       simp only [j1, j2, j3, j4, j5]
       refine jT 18 (.pick (.tmp 56) (.const (.bool true)) (.tmp 66)) (some 67) (.bool false) hHeld ?_
       simp only [j1, j2, j3, j4, j5]
       refine wpAnyH_done (by kernel_rfl) ?_ _
       go_wp2_with fail
       go_meet
       exact ⟨rfl, Lib.hid ⟨_, _, _, _, _, _, _, _, _, _, HXS.out, HRS.out⟩⟩
      ·subst h2
       obtain ⟨wS, hwS⟩ : ∃ wS, wS = wc2.drew := ⟨_, rfl⟩
       have hbS : Below wc2.heap.size wc2 wS := by rw [hwS]; exact (Below.refl _ _).drew
       have HXS := jz (hx.keep hbS)
       have HRS := Lib.hid hrs
       have HLK := jz (h5.keep hbS)
       have HNX := jz (RSt.next hrs)
       have HHL : Hid (d.sec.length / 2 = N / 2) := jz (by rw [hx.dl])
       have HLV : Hid (∀ W, Blk W gz 39 (prC m.g (.pointer (some ⟨gl, 0, none⟩)) ev mr r v L) → W.cell? ⟨gz, 1, none⟩ = some (.pointer (some ⟨gl, 0, none⟩))) := jz (fun W hB => (hB.cell 1).trans rfl)
       have hcr : (LL.cnt : Int) ≤ ((d.sec.length / 2 - 1 : Nat) : Int) := by have h := HNX.out.2.2; have := HHL.out; omega
       have hgg : (G : Int) ≤ (LL.gen : Int) := by have := HNX.out.1; omega
       have hh4 : d.sec.length / 2 ≤ 4096 := by have := HXS.out.dl; omega
       clear hx hrs hbS h5
       refine held_start 19 (fun W => Blk W gz 39 (prC m.g (.pointer (some ⟨gl, 0, none⟩)) ev mr r v L)) (by kernel_rfl) (by kernel_rfl) (by rw [← hwS]; exact HXS.out.b) (fun hHeld => ?_)
       rw [← hwS] at hHeld ⊢
       clear hwS
       refine jT 0 (.fieldAddr 39 (.tmp 6) 1) (some 49) (.pointer (some ⟨gz, 1, none⟩)) hHeld ?_
       simp only [j1, j2, j3, j4, j5]
       refine jT 1 (.load 33 (.tmp 49)) (some 50) (.pointer (some ⟨gl, 0, none⟩)) (hy := fun o ho wX hX => by have hcell := HLV.out _ hX; unfold execOp; simp only [ho]; go_simp) hHeld ?_
       simp only [j1, j2, j3, j4, j5]
       refine jT 3 (.fieldAddr 39 (.tmp 6) 1) (some 52) (.pointer (some ⟨gz, 1, none⟩)) hHeld ?_
       simp only [j1, j2, j3, j4, j5]
       refine jT 4 (.load 33 (.tmp 52)) (some 53) (.pointer (some ⟨gl, 0, none⟩)) (hy := fun o ho wX hX => by have hcell := HLV.out _ hX; unfold execOp; simp only [ho]; go_simp) hHeld ?_
       simp only [j1, j2, j3, j4, j5]
       refine jW [2] ?_
       refine jC 2 (.call { callee := .value (.func 10), args := #[.tmp 50], argTypes := #[33] }) (some 51) 10 (#[.pointer (some ⟨gl, 0, none⟩)]) ?_ jN
       refine (log_count wS gl m.g _ LL HLK.out.blk).mono ?_
       rintro e wq ⟨rfl, hwq⟩
       rw [hwq]
       clear hwq wq
       refine ⟨_, rfl, HXS.out.b, fun hHeld => ?_⟩
       simp only [j1, j2, j3, j4, j5]
       refine jW [5] ?_
       refine jC 5 (.call { callee := .value (.func 11), args := #[.tmp 53], argTypes := #[33] }) (some 54) 11 (#[.pointer (some ⟨gl, 0, none⟩)]) ?_ jN
       refine (log_room wS gl m.g _ LL HLK.out.blk HLK.out.ok.side hh4).mono ?_
       rintro e w8 ⟨rfl, hb8⟩
       have HX8 := jz (HXS.out.keep hb8)
       have HL8 := jz (HLK.out.keep hb8)
       clear hb8
       refine ⟨_, rfl, HX8.out.b, fun hHeld => ?_⟩
       simp only [j1, j2, j3, j4, j5]
       refine jT 6 (.binOp .gtr 3 (.tmp 51) (.tmp 54) 3) (some 55) (.bool false) (hy := fun o ho wX hX => by unfold execOp; simp only [ho]; go_simp; omega) hHeld ?_
       simp only [j1, j2, j3, j4, j5]
       refine jM 7 (.tmp 55) (some 56) (.bool false) hHeld ?_
       simp only [j1, j2, j3, j4, j5]
       refine jT 8 (.fieldAddr 39 (.tmp 6) 1) (some 57) (.pointer (some ⟨gz, 1, none⟩)) hHeld ?_
       simp only [j1, j2, j3, j4, j5]
       refine jT 9 (.load 33 (.tmp 57)) (some 58) (.pointer (some ⟨gl, 0, none⟩)) (hy := fun o ho wX hX => by have hcell := HLV.out _ hX; unfold execOp; simp only [ho]; go_simp) hHeld ?_
       simp only [j1, j2, j3, j4, j5]
       refine jT 10 (.binOp .neq 33 (.tmp 58) (.const (.pointer none)) 33) (some 59) (.bool true) hHeld ?_
       simp only [j1, j2, j3, j4, j5]
       refine jM 11 (.tmp 59) (some 60) (.bool true) hHeld ?_
       simp only [j1, j2, j3, j4, j5]
       refine jT 12 (.fieldAddr 39 (.tmp 6) 1) (some 61) (.pointer (some ⟨gz, 1, none⟩)) hHeld ?_
       simp only [j1, j2, j3, j4, j5]
       refine jT 13 (.load 33 (.tmp 61)) (some 62) (.pointer (some ⟨gl, 0, none⟩)) (hy := fun o ho wX hX => by have hcell := HLV.out _ hX; unfold execOp; simp only [ho]; go_simp) hHeld ?_
       simp only [j1, j2, j3, j4, j5]
       refine jM 15 (.tmp 7) (some 64) (.int .u32 G) hHeld ?_
       simp only [j1, j2, j3, j4, j5]
       refine jW [14] ?_
       refine jC 14 (.call { callee := .value (.func 12), args := #[.tmp 62], argTypes := #[33] }) (some 63) 12 (#[.pointer (some ⟨gl, 0, none⟩)]) ?_ jN
       refine (log_generation w8 gl m.g _ LL HL8.out.blk).mono ?_
       rintro e wq ⟨rfl, hwq⟩
       rw [hwq]
       clear hwq wq
       refine ⟨_, rfl, HX8.out.b, fun hHeld => ?_⟩
       simp only [j1, j2, j3, j4, j5]
       refine jT 16 (.binOp .lss 35 (.tmp 63) (.tmp 64) 35) (some 65) (.bool false) (hy := fun o ho wX hX => by unfold execOp; simp only [ho]; go_simp; omega) hHeld ?_
       simp only [j1, j2, j3, j4, j5]
       refine jT 17 (.pick (.tmp 60) (.tmp 65) (.const (.bool false))) (some 66) (.bool false) hHeld ?_
       simp only [j1, j2, j3, j4, j5]
       refine jT 18 (.pick (.tmp 56) (.const (.bool true)) (.tmp 66)) (some 67) (.bool false) hHeld ?_
       simp only [j1, j2, j3, j4, j5]
       refine wpAnyH_done (by kernel_rfl) ?_ _
       go_wp2_with fail
       go_meet
       exact ⟨rfl, Lib.hid ⟨_, _, _, _, _, _, _, _, _, _, HX8.out, HRS.out⟩⟩
     case rest =>
      obtain ⟨rfl, HR3⟩ := hcut
      rename World => w7
      obtain ⟨m, d, lv, ev, lo, lg, mr, r, v, L, hx, hrs⟩ := HR3.out
      have c1 : w7.cell? ⟨gz, 1, none⟩ = some lv := (hx.b.cell 1).trans rfl
      rcases hx.pb.lg with ⟨rfl, h2, rfl⟩ | ⟨gl, LL, rfl, h2, rfl, h4, h5⟩
      ·have hG0 : max (G : Int) 0 = (G : Int) := by omega
       have HG0 := Lib.hid hG0
       clear hx hrs hG0
       go_wp2_with (go_at_call 12; refine (log_generation_nil w7).mono ?_; rintro e wq ⟨rfl, hwq⟩; rw [hwq]; clear hwq wq)
       exact ⟨⟨k + 1, G, by omega, by go_num, by first | rfl | rw [HG0.out], HR3⟩, by simp [intOf]; omega⟩
      ·have hnx := RSt.next hrs
       have HG0 : Hid (max (G : Int) (LL.gen : Int) = (LL.gen : Int)) := jz (by have := hnx.1; omega)
       have HN8 : Hid (RR w2 w7 gz N (k + 1) LL.gen) := Lib.hid ⟨m, d, _, ev, lo, _, mr, r, v, L, hx, hnx.2.1⟩
       have HGN := jz (log_generation w7 gl m.g _ LL h5.blk)
       clear hx hrs hnx h5
       go_wp2_with (go_at_call 12; refine HGN.out.mono ?_; rintro e wq ⟨rfl, hwq⟩; rw [hwq]; clear hwq wq)
       exact ⟨⟨k + 1, LL.gen, by omega, by go_num, by first | rfl | rw [HG0.out], HN8⟩, by simp [intOf]; omega⟩
  ·obtain rfl : k = l.length := by omega
   go_wp2_with fail
   go_ret
   exact ⟨rfl, HBW.out⟩
end Go.Proofs.YtillkpjflcgkeaaGreat
