import Derived.Test.YtillkpjflcgkeaaGreatMT38
set_option linter.unusedSimpArgs false
set_option maxRecDepth 100000
namespace Go.Proofs.YtillkpjflcgkeaaGreat
open Go.RowKit
attribute [local irreducible] wpQuiet wpAnyH
theorem Off.allO {b : Nat} {w w' : World} (h : Off b w w') (hs : w'.heap.size = w.heap.size) : (∀ k, k ≠ b → w'.heap[k]? = w.heap[k]?) ∧ Below b w w' := by
 have h1 : ∀ k, k ≠ b → w'.heap[k]? = w.heap[k]? := fun k hk => by
  rcases Nat.lt_or_ge k w.heap.size with hl | hl
  ·exact h.block k hl hk
  ·rw [Array.getElem?_eq_none hl, Array.getElem?_eq_none (by omega)]
 exact ⟨h1, ⟨h.os, h.tape, h.output, h.size, fun k hk => h1 k (by omega)⟩⟩
theorem list_oneO {a : Array Value} (h : a.all (·.oneCell') = true) : ∀ u ∈ a.toList, u.oneCell' = true := fun u hu => by
 rw [Array.all_eq_true_iff_forall_mem] at h
 exact h u (by simpa using hu)
theorem openR_len (d : DiskD) : (openR d).2.1.sec.length = d.sec.length := by
 unfold openR
 split
 ·rfl
 ·split
  ·exact syncS_len d
  ·unfold openS
   split
   ·exact syncS_len d
   ·split
    ·exact syncS_len d
    ·split
     ·show (wsD _ _ _).sec.length = _
      rw [wsD_len, syncS_len]
     ·show (wsD _ _ _).sec.length = _
      rw [wsD_len, syncS_len]
theorem fNext_es {k : Nat} {S : SSt} {p : FSt} {n : Nat} (hS : S.2.length ≤ n) (hp : ∀ es, p.1 = some es → es.length ≤ n) : ∀ es, (fNext k S p).1 = some es → es.length ≤ n := by
 intro es h
 unfold fNext at h
 split at h
 ·exact hp es h
 ·split at h
  ·exact hp es h
  ·have h2 : some S.2 = some es := h
   injection h2 with h2
   rw [← h2]; exact hS
theorem slotS_len (d : DiskD) (f h : Nat) : (slotS d f h).2.length ≤ h := by
 have h1 := scanL_len ((d.sec.drop f).take h) (none, [])
 rw [List.length_take] at h1
 have h2 : (slotS d f h).2.length ≤ 0 + min h (d.sec.drop f).length := h1
 omega
theorem openR_es {d : DiskD} {L : LogD} {es : List Ent2} (h : (openR d).2.2 = some (L, es)) : es.length ≤ d.sec.length := by
 have hF : ∀ D : DiskD, ∀ es, (openF D).1 = some es → es.length ≤ D.sec.length := fun D es he => by
  unfold openF at he
  refine Nat.le_trans (fNext_es (k := 1) (n := D.sec.length / 2) (slotS_len D _ _) (fun es he => fNext_es (k := 0) (p := (none, _)) (slotS_len D _ _) (fun es he => by cases he) es he) es he) (by omega)
 unfold openR at h
 split at h
 ·cases h
 ·split at h
  ·cases h
  ·unfold openS at h
   split at h
   ·rename_i es' hes
    injection h with h
    injection h with _ h
    rw [← h, ← syncS_len d]
    exact hF _ _ hes
   ·split at h
    ·cases h
    ·split at h
     ·cases h
     ·injection h with h
      injection h with _ h
      rw [← h]; exact Nat.zero_le _
theorem ropenR_es (r : RefD) : (ropenR r).2.1.es.length ≤ r.sec.length := by
 have hs : ∀ (D : RefD) (f : Int) (n : Nat), (rscan D f n).2.length ≤ n := fun D f n => by
  have h1 := scanL_len (rsecs D f n) (none, [])
  rw [rsecs_length] at h1
  have h2 : (rscan D f n).2.length ≤ 0 + n := h1
  omega
 have hw : ∀ (D : RefD) (x : SSt) (sd la n : Nat), x.2.length ≤ n → (ropenW D x sd la).2.1.es.length ≤ n := fun D x sd la n hx => by
  unfold ropenW
  split
  ·exact hx
  ·split
   ·exact Nat.zero_le _
   ·split
    ·exact hx
    ·exact Nat.zero_le _
 unfold ropenR
 split
 ·exact Nat.zero_le _
 ·split
  ·unfold ropenS
   refine Nat.le_trans (hw _ _ _ _ (r.sec.length / 2) ?_) (by omega)
   split
   ·exact hs _ _ _
   ·exact hs _ _ _
  ·exact Nat.zero_le _
theorem open_lo {w0 w w' : World} {m' : DiskM} {d : DiskD} {pl ve : Value} (h0 : w0.heap.size ≤ w.heap.size) (h : OpenW w w' m' d.sec.length (openR d) pl ve) : ∃ lo, LO w0 w' m' (openR d).2.1 pl lo ((openR d).2.2.map (·.1)) ∧ (∀ b, lo = some b → w.heap.size ≤ b) ∧ (pl = .pointer none ∨ ∃ gl, pl = .pointer (some ⟨gl, 0, none⟩)) ∧ (∃ (A : Option Addr) (c : Nat) (vs : List Ent2), ve = .slice A vs.length c ∧ Sn w' 33 ve vs.length (vs.flatMap entP) ∧ (∀ q ∈ vs, EntOk q) ∧ vs.length ≤ d.sec.length ∧ ∀ b, ve.ownBlock = some b → w.heap.size ≤ b) := by
 unfold OpenW at h
 cases hr : (openR d).2.2 with
 | none =>
  rw [hr] at h
  exact ⟨none, .inl ⟨h.1, rfl, rfl⟩, (fun b e => by cases e), .inl h.1, none, 0, [], h.2, by rw [h.2]; exact ⟨none, 0, rfl, Nat.le_refl _, rfl, fun h => absurd h (by simp)⟩, (fun q hq => by cases hq), Nat.zero_le _, by rw [h.2]; exact fun b e => by cases e⟩
 | some x =>
  obtain ⟨L, es⟩ := x
  have hes := openR_es hr
  rw [hr] at h
  obtain ⟨gl, rfl, hlk, hgl, hown, hok, _⟩ := h
  obtain ⟨A, c, rfl, _⟩ := Sn.own hown
  exact ⟨some gl, .inr ⟨gl, L, rfl, rfl, rfl, Nat.le_trans h0 hgl, by have := hlk.ok.half; rw [← this]; exact hlk⟩, (fun b e => by injection e with e; omega), .inr ⟨_, rfl⟩, A, c, es, rfl, Sn.own hown, hok, hes, fun b e => (hown.lt b e).1⟩
set_option maxHeartbeats 16000000 in
theorem open19 {w0 w : World} {m : DiskM} {d : DiskD} {lv ev : Value} {lo : Option Nat} {lg : Option LogD} {mr : RM} {r : RefD} {v : Value} {L : RLog} (hpb : PB19 w0 w m d lv ev lo lg mr r v L) (hr : d.room + 20 ≤ 100000) (hst : r.steps + 20 ≤ 1000000000) (hop : r.opn.length + 20 ≤ 50000) (hN : d.sec.length ≤ 1000) (hN2 : r.sec.length ≤ 1000) :
  Calls Tryz.prog 25 #[.agg (prC m.g lv ev mr r v L)] w fun e w' => ∃ m' lv' ev' lo' mr' v' b, e = .returned (.tuple #[.agg (prC m'.g lv' ev' mr' (ropenR r).1 v' (ropenR r).2.1), .bool b]) ∧ m'.g = m.g ∧ XR19 w0 w w' m lo mr r v m' (openR d).2.1 lv' ev' lo' ((openR d).2.2.map (·.1)) mr' (ropenR r).1 v' (ropenR r).2.1 := by
 have hlenP : ∀ g lv ev m r v L, (Tryz.prog.info? 39).map (·.size) = some (prC g lv ev m r v L).toList.length := fun _ _ _ _ _ _ _ => prI
 have hlenD : ∀ m r, (Tryz.prog.info? 31).map (·.size) = some (refC m r).toList.length := fun _ _ => refI
 have hlenL : ∀ v L, (Tryz.prog.info? 37).map (·.size) = some (rlC v L).toList.length := fun _ _ => rlI
 obtain ⟨g1, hg1⟩ : ∃ g, g = w.heap.size := ⟨_, rfl⟩
 obtain ⟨w1, hw1⟩ : ∃ w1, w1 = (w.alloc (.cells (prC m.g lv ev mr r v L) 39)).alloc (.cells prZ 39) := ⟨_, rfl⟩
 have hb1 : Below w.heap.size w w1 := by rw [hw1]; exact bstep (bel1 _ _) (bel1 _ _)
 have h0w := hpb.st.bel.size
 obtain ⟨glx, hglx⟩ : ∃ glx, lo = some glx ∨ (lo = none ∧ w.heap.size ≤ glx) := by
  cases lo with
  | none => exact ⟨w.heap.size, .inr ⟨rfl, Nat.le_refl _⟩⟩
  | some g => exact ⟨g, .inl rfl⟩
 have HX1 : Hid (XO19 w0 w w1 m lo mr r v glx m d lv ev lo lg mr r v L g1 (g1 + 1) (prC m.g lv ev mr r v L) prZ) := Lib.hid ⟨hpb.keep hb1, by rw [hw1, hg1]; exact (Blk.new _ _ _).alloc _, by rw [hw1, hg1]; exact Blk.newAt _ _ _ _ (by simp), Free.fresh hpb (by omega), Free.fresh hpb (by omega), LT.of_below hb1, fun b hb => .inl hb, fun b _ e => e, ⟨by omega, by omega, by omega, h0w⟩, hglx⟩
 have HOP := jz (log_open w1 m d HX1.out.pb.st.dk (by omega))
 have HREF := jz (fun W (k : RK W mr r) => ref19_open mr r W k (by omega) (by omega))
 obtain ⟨rr, hrr⟩ : ∃ x, x = ropenR r := ⟨_, rfl⟩
 obtain ⟨r', L', c⟩ := rr
 have HRV := Lib.hid hrr.symm
 rw [← hrr] at HREF
 simp only at HREF
 have HCD := jz (openR_code d)
 have c0 : w1.cell? ⟨g1, 0, none⟩ = some (.pointer (some ⟨m.g, 0, none⟩)) := (HX1.out.b1.cell 0).trans rfl
 have H0W := Lib.hid h0w
 have HG1 := Lib.hid hg1
 clear hb1 hpb hglx hrr h0w
 go_enter Tryz.func25, Tryz.ntmps25
 go_upto_region 1 with (refine al 39 prZ rfl rfl zeroPr ?_)
 rw [← hw1, ← hg1]
 clear hw1 hg1
 go_upto_region 3 with fail
 have HOL := jz (fun (W' : World) (m' : DiskM) (pl ve : Value) (h : OpenW w1 W' m' d.sec.length (openR d) pl ve) => open_lo (w0 := w0) HX1.out.pb.st.bel.size h)
 obtain ⟨x, hx⟩ : ∃ x, x = (openR d).1 := ⟨_, rfl⟩
 rw [← hx] at HCD HOP
 have HXE := Lib.hid hx
 obtain ⟨D, hD⟩ : ∃ D, D = openR d := ⟨_, rfl⟩
 rw [← hD] at HOP HOL
 have HDE := Lib.hid hD
 clear hx hD
 go_cut [5] from 6 to 14 (fun e5 W => e5 = valE x ∧ ∃ m2 pl lo2 A n c, Hid (XO19 w0 w W m lo mr r v glx m2 D.2.1 pl (.slice A n c) lo2 (D.2.2.map (·.1)) mr r v L g1 (g1 + 1) (prC m2.g pl (.slice A n c) mr r v L) prZ ∧ m2.g = m.g ∧ (pl = .pointer none ∨ ∃ gl, pl = .pointer (some ⟨gl, 0, none⟩)) ∧ ∃ vs : List Ent2, n = vs.length ∧ Sn W 33 (.slice A n c) vs.length (vs.flatMap entP) ∧ (∀ q ∈ vs, EntOk q) ∧ vs.length ≤ 1000 ∧ (Value.slice A n c).ownBlock ≠ some g1))
 case first =>
  go_wp2_with fail
  refine HOP.out.mono ?_
  rintro e w2 ⟨pl, ve, m2, rfl, hk2, ht2, how⟩
  obtain ⟨lo2, hlo, hlt, hpf, A, c', vs, rfl, hsn, hok, hle, hvb⟩ := HOL.out w2 m2 pl ve how
  have HX2 : Hid (XO19 w0 w w2 m lo mr r v glx m2 D.2.1 pl ev lo2 (D.2.2.map (·.1)) mr r v L g1 (g1 + 1) (prC m.g lv ev mr r v L) prZ) := jz (HX1.out.log (HX1.out.pb.st.next hk2 ht2) (LT.of_dt (gl := w1.heap.size) ht2) (.inr (Nat.le_refl _)) hlo (fun b hb e => by have := hlt b e; omega))
  have HM2 : Hid (m2.g = m.g) := Lib.hid ht2.g
  have HVB : Hid (∀ b, (Value.slice A vs.length c').ownBlock = some b → b ≠ g1) := jz (fun b e e2 => by have h1 := hvb b e; have h2 := HX1.out.b1.lt; omega)
  have HSN := Lib.hid hsn
  have HOK := Lib.hid hok
  have hle' : vs.length ≤ 1000 := by omega
  clear hk2 ht2 how hlo hlt hsn hok hle hvb HOP
  have c1 : w2.cell? ⟨g1, 1, none⟩ = some lv := (HX2.out.b1.cell 1).trans rfl
  have f1 := HX2.out.b1.frozen 1
  have c2 : w2.cell? ⟨g1, 2, none⟩ = some ev := (HX2.out.b1.cell 2).trans rfl
  have f2 := HX2.out.b1.frozen 2
  have hgl := HX2.out.b1.lt
  have HX3 : Hid (XO19 w0 w ((w2.setCell ⟨g1, 1, none⟩ pl).setCell ⟨g1, 2, none⟩ (.slice A vs.length c')) m lo mr r v glx m2 D.2.1 pl (.slice A vs.length c') lo2 (D.2.2.map (·.1)) mr r v L g1 (g1 + 1) (prC m2.g pl (.slice A vs.length c') mr r v L) prZ) := jz (by
   rw [HM2.out]
   exact ((HX2.out.cell 1 pl).cell 2 (.slice A vs.length c')).setE ⟨_, _, _, rfl⟩)
  have HS3 : Hid (Sn ((w2.setCell ⟨g1, 1, none⟩ pl).setCell ⟨g1, 2, none⟩ (.slice A vs.length c')) 33 (.slice A vs.length c') vs.length (vs.flatMap entP)) := jz ((HSN.out.offK (fun k hk => Below.heap_setCell w2 ⟨g1, 1, none⟩ _ k hk) (fun e => HVB.out g1 e rfl)).offK (fun k hk => Below.heap_setCell _ ⟨g1, 2, none⟩ _ k hk) (fun e => HVB.out g1 e rfl))
  clear HX2
  rcases hpf with rfl | ⟨gq, rfl⟩
  all_goals
   go_wp2_with fail
   go_meet
   exact ⟨rfl, m2, _, lo2, A, vs.length, c', Lib.hid ⟨HX3.out, HM2.out, by first | exact .inl rfl | exact .inr ⟨_, rfl⟩, vs, rfl, HS3.out, HOK.out, hle', fun e => HVB.out g1 e rfl⟩⟩
 case rest =>
  obtain ⟨rfl, m2, pl, lo2, A2, n2, c2, HQ⟩ := hcut
  rename World => w3
  obtain ⟨hx3, hm2, hpf, vs, rfl, hsn, hok, hvl, hne⟩ := HQ.out
  have HNE := Lib.hid hne
  have HX3 := Lib.hid hx3
  have HM2 := Lib.hid hm2
  have HSN := Lib.hid hsn
  have HOK := Lib.hid hok
  have hrd := pr_disk hx3.b1
  have hrl := pr_log hx3.b1
  have HP := jz (HREF.out w3 hx3.pb.rk)
  have hes2 := ropenR_es r
  rw [HRV.out] at hes2
  have hes3 : L'.es.length ≤ 1000 := Nat.le_trans hes2 hN2
  clear hx3 hm2 hsn hok hne HQ HREF c0 hes2
  go_upto_region 5 with (first
   | (refine ld 31 _ rfl rfl rfl hrd Tryz.underlying31 rfl (hlenD _ _) ?_)
   | (go_at_call 51; refine HP.out.mono ?_; rintro e w4 ⟨mr2, v2, rfl, hk2, hl2, hb2, hsub, hvs⟩; have HX4 := jz (HX3.out.ref hb2 hk2 hl2 hsub (fun b e => (hvs b e).elim (fun h => by cases h) .inr)); have HA4 := jz (HX3.out.b1.keep hb2); have HB24 := Lib.hid hb2; clear hk2 hl2 hb2 hsub hvs)
   | (refine stPartM 31 (.tmp 22) (.tmp 19) rfl rfl [.pointer (some ⟨m2.g, 0, none⟩), pl, .slice A2 vs.length c2] (refC mr r).toList (rlC v L).toList (refC mr2 r').toList (by rfl) (by rfl) HA4.out (hlenD _ _) rfl (list_oneO (refC_one HX4.out.pb.rk)) ?_; intro w5 hB5 ho5 hz5; have HB5 := Lib.hid hB5; have HO5 := jz (ho5.allO hz5); clear hB5 ho5 hz5)
   | (refine stPartM 37 (.tmp 23) (.tmp 20) rfl rfl ([.pointer (some ⟨m2.g, 0, none⟩), pl, .slice A2 vs.length c2] ++ (refC mr2 r').toList) (rlC v L).toList [] (rlC v2 L').toList (by rfl) (by rfl) (by have h := HB5.out; rw [List.append_nil]; exact h) (hlenL _ _) rfl (list_oneO (rlC_one HX4.out.pb.rl)) ?_; intro w6 hB6 ho6 hz6; have HB6 := Lib.hid hB6; have HO6 := jz (ho6.allO hz6); clear hB6 ho6 hz6))
  have HX6 : Hid (XO19 w0 w w6 m lo mr r v glx m2 D.2.1 pl (.slice A2 vs.length c2) lo2 (D.2.2.map (·.1)) mr2 r' v2 L' g1 (g1 + 1) (prC m2.g pl (.slice A2 vs.length c2) mr2 r' v2 L') prZ) := jz ((HX4.out.st1 HB5.out HO5.out.2 HO5.out.1).st1 (by have h := HB6.out; rw [List.append_nil] at h; exact h) HO6.out.2 HO6.out.1)
  have HSV : Hid (Sn w6 33 (.slice A2 vs.length c2) vs.length (vs.flatMap entP)) := jz (by
   rcases Nat.eq_zero_or_pos vs.length with h0 | h0
   ·have hvs : vs = [] := List.eq_nil_of_length_eq_zero h0
    subst hvs
    obtain ⟨A', c', hv, hc, hl, _⟩ := HSN.out
    exact ⟨A', c', hv, hc, hl, fun h => absurd h (by simp)⟩
   ·have hne : (Value.slice A2 vs.length c2).ownBlock ≠ some g1 := HNE.out
    exact (((HSN.out.below HB24.out).offK HO5.out.1 hne).offK HO6.out.1 hne))
  have HCC := Lib.hid HCD.out
  obtain ⟨k1, hk1⟩ : ∃ k : Bool, k = (codeA x == c) := ⟨_, rfl⟩
  have HK1 : Hid ((codeA x == c) = k1) := Lib.hid hk1.symm
  obtain ⟨k2, hk2⟩ : ∃ k : Bool, k = (c == 0) := ⟨_, rfl⟩
  have HK2 : Hid ((c == 0) = k2) := Lib.hid hk2.symm
  have HK2n : Hid ((c != 0) = !k2) := jz (by rw [hk2]; rfl)
  obtain ⟨k3, hk3⟩ : ∃ k : Bool, k = decide (vs = L'.es) := ⟨_, rfl⟩
  have HK3 : Hid (decide (vs = L'.es) = k3) := Lib.hid hk3.symm
  obtain ⟨Ar, cr, her⟩ := HX6.out.pb.rl.sn.slc
  have HER := Lib.hid her
  clear hk1 hk2 hk3 her hrd hrl HA4 HX4 HB5 HO5 HB6 HO6 HP HB24
  cases x with
  | none =>
   have hv : valE none = .nilIface := rfl
   have HC := jz (fun W => code19 none W HCC.out)
   rw [hv] at HC ⊢
   have hnilT := eq_nilT
   clear hv
   cases k1 with
   | false =>
    obtain ⟨wS, hwS⟩ : ∃ wS, wS = w6.drew := ⟨_, rfl⟩
    have hbS : Below w6.heap.size w6 wS := by rw [hwS]; exact (Below.refl _ _).drew
    have HXS := jz (HX6.out.keep hbS)
    have HSS := jz (HSV.out.below hbS)
    clear hbS
    have HCL2 : Hid (∀ W, Blk W g1 39 (prC m2.g pl (.slice A2 vs.length c2) mr2 r' v2 L') → W.cell? ⟨g1, 2, none⟩ = some (.slice A2 vs.length c2)) := jz (fun W hB => (hB.cell 2).trans rfl)
    have HCL1 : Hid (∀ W, Blk W g1 39 (prC m2.g pl (.slice A2 vs.length c2) mr2 r' v2 L') → W.cell? ⟨g1, 1, none⟩ = some (pl)) := jz (fun W hB => (hB.cell 1).trans rfl)
    have HCL12 : Hid (∀ W, Blk W g1 39 (prC m2.g pl (.slice A2 vs.length c2) mr2 r' v2 L') → W.cell? ⟨g1, 12, none⟩ = some (.slice Ar L'.es.length cr)) := jz (fun W hB => by have h : W.cell? ⟨g1, 12, none⟩ = some v2 := (hB.cell 12).trans rfl; rw [h, HER.out])
    refine held_start 30 (fun W => Blk W g1 39 (prC m2.g pl (.slice A2 vs.length c2) mr2 r' v2 L')) (by kernel_rfl) (by kernel_rfl) (by rw [← hwS]; exact HXS.out.b1) (fun hHeld => ?_)
    rw [← hwS] at hHeld ⊢
    clear hwS
    refine jL 0 39 (.tmp 1) (some 24) (cs := (prC m2.g pl (.slice A2 vs.length c2) mr2 r' v2 L').toList) (fun _ hX => hX.range) Tryz.underlying39 rfl (hlenP _ _ _ _ _ _ _) hHeld ?_
    simp only [j1, j2, j3, j4, j5]
    refine jM 1 (.tmp 5) (some 25) (.nilIface) hHeld ?_
    simp only [j1, j2, j3, j4, j5]
    refine jM 3 (.tmp 4) (some 27) (.int .i64 c) hHeld ?_
    simp only [j1, j2, j3, j4, j5]
    refine jW [2] ?_
    refine jC 2 (.call { callee := .value (.func 22), args := #[.tmp 25], argTypes := #[53] }) (some 26) 22 (#[.nilIface]) ?_ jN
    refine (HC.out wS).mono ?_
    rintro e w7 ⟨rfl, hb7⟩
    have HX7 := jz (HXS.out.keep hb7)
    have HS7 := jz (HSS.out.below hb7)
    clear hb7
    refine ⟨_, rfl, HX7.out.b1, fun hHeld => ?_⟩
    simp only [j1, j2, j3, j4, j5]
    refine jT 4 (.binOp .eql 3 (.tmp 26) (.tmp 27) 3) (some 28) (.bool false) (hy := fun o ho wX hX => by have hk1 := HK1.out; unfold execOp; simp only [ho]; go_simp) hHeld ?_
    simp only [j1, j2, j3, j4, j5]
    refine jM 5 (.tmp 28) (some 29) (.bool false) hHeld ?_
    simp only [j1, j2, j3, j4, j5]
    refine jK 6 (some 30) hHeld ?_
    simp only [j1, j2, j3, j4, j5]
    refine jK 7 (some 31) hHeld ?_
    simp only [j1, j2, j3, j4, j5]
    refine jK 8 (some 32) hHeld ?_
    simp only [j1, j2, j3, j4, j5]
    refine jK 9 (some 33) hHeld ?_
    simp only [j1, j2, j3, j4, j5]
    refine jK 10 (some 34) hHeld ?_
    simp only [j1, j2, j3, j4, j5]
    refine jT 11 (.pick (.tmp 29) (.tmp 34) (.const (.bool false))) (some 35) (.bool false) hHeld ?_
    simp only [j1, j2, j3, j4, j5]
    refine jM 12 (.tmp 35) (some 36) (.bool false) hHeld ?_
    simp only [j1, j2, j3, j4, j5]
    refine jK 13 (some 37) hHeld ?_
    simp only [j1, j2, j3, j4, j5]
    refine jK 14 (some 38) hHeld ?_
    simp only [j1, j2, j3, j4, j5]
    refine jK 15 (some 39) hHeld ?_
    simp only [j1, j2, j3, j4, j5]
    refine jK 16 (some 40) hHeld ?_
    simp only [j1, j2, j3, j4, j5]
    refine jK 17 (some 41) hHeld ?_
    simp only [j1, j2, j3, j4, j5]
    refine jK 18 (some 42) hHeld ?_
    simp only [j1, j2, j3, j4, j5]
    refine jT 19 (.pick (.tmp 36) (.tmp 42) (.const (.bool false))) (some 43) (.bool false) hHeld ?_
    simp only [j1, j2, j3, j4, j5]
    refine jM 20 (.tmp 43) (some 44) (.bool false) hHeld ?_
    simp only [j1, j2, j3, j4, j5]
    refine jK 21 (some 45) hHeld ?_
    simp only [j1, j2, j3, j4, j5]
    refine jK 22 (some 46) hHeld ?_
    simp only [j1, j2, j3, j4, j5]
    refine jK 23 (some 47) hHeld ?_
    simp only [j1, j2, j3, j4, j5]
    refine jK 24 (some 48) hHeld ?_
    simp only [j1, j2, j3, j4, j5]
    refine jK 25 (some 49) hHeld ?_
    simp only [j1, j2, j3, j4, j5]
    refine jK 26 (some 50) hHeld ?_
    simp only [j1, j2, j3, j4, j5]
    refine jT 27 (.pick (.tmp 44) (.tmp 50) (.const (.bool false))) (some 51) (.bool false) hHeld ?_
    simp only [j1, j2, j3, j4, j5]
    have hoth : ∀ k, k ≠ g1 + 1 → (w7.setCells (g1 + 1) 0 (prC m2.g pl (.slice A2 vs.length c2) mr2 r' v2 L').toList).heap[k]? = w7.heap[k]? := fun k hk => setCells_other hk _ _ _
    have HX9 : Hid (XO19 w0 w (w7.setCells (g1 + 1) 0 (prC m2.g pl (.slice A2 vs.length c2) mr2 r' v2 L').toList) m lo mr r v glx m2 D.2.1 _ _ lo2 (D.2.2.map (·.1)) mr2 r' v2 L' g1 (g1 + 1) (prC m2.g pl (.slice A2 vs.length c2) mr2 r' v2 L') (prC m2.g pl (.slice A2 vs.length c2) mr2 r' v2 L')) := jz (HX7.out.st2 (Blk.setAll _ HX7.out.b2 rfl) (setCells_below (Nat.le_refl _) _ _ _).1 hoth)
    have hSS9 : (fun W => Blk W g1 39 (prC m2.g pl (.slice A2 vs.length c2) mr2 r' v2 L')) (w7.setCells (g1 + 1) 0 (prC m2.g pl (.slice A2 vs.length c2) mr2 r' v2 L').toList) := HX9.out.b1
    refine jW [28] ?_
    refine jR 28 39 (.tmp 2) (.tmp 24) none (cs := (prC m2.g pl (.slice A2 vs.length c2) mr2 r' v2 L').toList) (there_all HX7.out.b2 rfl) (hlenP _ _ _ _ _ _ _) (list_oneO (prC_one HX7.out.pb)) hSS9 ?_ jN
    simp only [j1, j2, j3, j4, j5]
    refine jW [29] ?_
    refine jS 29 (.assign (.tmp 51)) (some 3) (.bool false) (w7.setCells (g1 + 1) 0 (prC m2.g pl (.slice A2 vs.length c2) mr2 r' v2 L').toList) hSS9 ?_ jN
    simp only [j1, j2, j3, j4, j5]
    refine wpAnyH_done (by kernel_rfl) ?_ _
    obtain ⟨wz, hwz⟩ : ∃ wz, wz = (w7.setCells (g1 + 1) 0 (prC m2.g pl (.slice A2 vs.length c2) mr2 r' v2 L').toList) := ⟨_, rfl⟩
    rw [← hwz] at HX9 ⊢
    clear hwz hSS9 hoth
    go_wp2_with fail
    have hrz := HX9.out.b2.range
    exact bodyPost_ret (results_cell1 rfl _ rfl hrz Tryz.underlying39 rfl (hlenP _ _ _ _ _ _ _)) rfl ⟨m2, _, _, lo2, mr2, v2, _, by rw [HRV.out]; rfl, HM2.out, by rw [HRV.out, ← HDE.out]; exact HX9.out.ret⟩
   | true =>
    cases k2 with
    | false =>
     obtain ⟨wS, hwS⟩ : ∃ wS, wS = w6.drew := ⟨_, rfl⟩
     have hbS : Below w6.heap.size w6 wS := by rw [hwS]; exact (Below.refl _ _).drew
     have HXS := jz (HX6.out.keep hbS)
     have HSS := jz (HSV.out.below hbS)
     clear hbS
     have HCL2 : Hid (∀ W, Blk W g1 39 (prC m2.g pl (.slice A2 vs.length c2) mr2 r' v2 L') → W.cell? ⟨g1, 2, none⟩ = some (.slice A2 vs.length c2)) := jz (fun W hB => (hB.cell 2).trans rfl)
     have HCL1 : Hid (∀ W, Blk W g1 39 (prC m2.g pl (.slice A2 vs.length c2) mr2 r' v2 L') → W.cell? ⟨g1, 1, none⟩ = some (pl)) := jz (fun W hB => (hB.cell 1).trans rfl)
     have HCL12 : Hid (∀ W, Blk W g1 39 (prC m2.g pl (.slice A2 vs.length c2) mr2 r' v2 L') → W.cell? ⟨g1, 12, none⟩ = some (.slice Ar L'.es.length cr)) := jz (fun W hB => by have h : W.cell? ⟨g1, 12, none⟩ = some v2 := (hB.cell 12).trans rfl; rw [h, HER.out])
     refine held_start 30 (fun W => Blk W g1 39 (prC m2.g pl (.slice A2 vs.length c2) mr2 r' v2 L')) (by kernel_rfl) (by kernel_rfl) (by rw [← hwS]; exact HXS.out.b1) (fun hHeld => ?_)
     rw [← hwS] at hHeld ⊢
     clear hwS
     refine jL 0 39 (.tmp 1) (some 24) (cs := (prC m2.g pl (.slice A2 vs.length c2) mr2 r' v2 L').toList) (fun _ hX => hX.range) Tryz.underlying39 rfl (hlenP _ _ _ _ _ _ _) hHeld ?_
     simp only [j1, j2, j3, j4, j5]
     refine jM 1 (.tmp 5) (some 25) (.nilIface) hHeld ?_
     simp only [j1, j2, j3, j4, j5]
     refine jM 3 (.tmp 4) (some 27) (.int .i64 c) hHeld ?_
     simp only [j1, j2, j3, j4, j5]
     refine jW [2] ?_
     refine jC 2 (.call { callee := .value (.func 22), args := #[.tmp 25], argTypes := #[53] }) (some 26) 22 (#[.nilIface]) ?_ jN
     refine (HC.out wS).mono ?_
     rintro e w7 ⟨rfl, hb7⟩
     have HX7 := jz (HXS.out.keep hb7)
     have HS7 := jz (HSS.out.below hb7)
     clear hb7
     refine ⟨_, rfl, HX7.out.b1, fun hHeld => ?_⟩
     simp only [j1, j2, j3, j4, j5]
     refine jT 4 (.binOp .eql 3 (.tmp 26) (.tmp 27) 3) (some 28) (.bool true) (hy := fun o ho wX hX => by have hk1 := HK1.out; unfold execOp; simp only [ho]; go_simp) hHeld ?_
     simp only [j1, j2, j3, j4, j5]
     refine jM 5 (.tmp 28) (some 29) (.bool true) hHeld ?_
     simp only [j1, j2, j3, j4, j5]
     refine jM 6 (.tmp 5) (some 30) (.nilIface) hHeld ?_
     simp only [j1, j2, j3, j4, j5]
     refine jT 7 (.binOp .eql 53 (.tmp 30) (.const .nilIface) 53) (some 31) (.bool true) hHeld ?_
     simp only [j1, j2, j3, j4, j5]
     refine jM 8 (.tmp 4) (some 32) (.int .i64 c) hHeld ?_
     simp only [j1, j2, j3, j4, j5]
     refine jT 9 (.binOp .eql 3 (.tmp 32) (.const (.int .i64 0)) 3) (some 33) (.bool false) (hy := fun o ho wX hX => by have hk2 := HK2.out; unfold execOp; simp only [ho]; go_simp) hHeld ?_
     simp only [j1, j2, j3, j4, j5]
     refine jT 10 (.binOp .eql 4 (.tmp 31) (.tmp 33) 4) (some 34) (.bool false) hHeld ?_
     simp only [j1, j2, j3, j4, j5]
     refine jT 11 (.pick (.tmp 29) (.tmp 34) (.const (.bool false))) (some 35) (.bool false) hHeld ?_
     simp only [j1, j2, j3, j4, j5]
     refine jM 12 (.tmp 35) (some 36) (.bool false) hHeld ?_
     simp only [j1, j2, j3, j4, j5]
     refine jK 13 (some 37) hHeld ?_
     simp only [j1, j2, j3, j4, j5]
     refine jK 14 (some 38) hHeld ?_
     simp only [j1, j2, j3, j4, j5]
     refine jK 15 (some 39) hHeld ?_
     simp only [j1, j2, j3, j4, j5]
     refine jK 16 (some 40) hHeld ?_
     simp only [j1, j2, j3, j4, j5]
     refine jK 17 (some 41) hHeld ?_
     simp only [j1, j2, j3, j4, j5]
     refine jK 18 (some 42) hHeld ?_
     simp only [j1, j2, j3, j4, j5]
     refine jT 19 (.pick (.tmp 36) (.tmp 42) (.const (.bool false))) (some 43) (.bool false) hHeld ?_
     simp only [j1, j2, j3, j4, j5]
     refine jM 20 (.tmp 43) (some 44) (.bool false) hHeld ?_
     simp only [j1, j2, j3, j4, j5]
     refine jK 21 (some 45) hHeld ?_
     simp only [j1, j2, j3, j4, j5]
     refine jK 22 (some 46) hHeld ?_
     simp only [j1, j2, j3, j4, j5]
     refine jK 23 (some 47) hHeld ?_
     simp only [j1, j2, j3, j4, j5]
     refine jK 24 (some 48) hHeld ?_
     simp only [j1, j2, j3, j4, j5]
     refine jK 25 (some 49) hHeld ?_
     simp only [j1, j2, j3, j4, j5]
     refine jK 26 (some 50) hHeld ?_
     simp only [j1, j2, j3, j4, j5]
     refine jT 27 (.pick (.tmp 44) (.tmp 50) (.const (.bool false))) (some 51) (.bool false) hHeld ?_
     simp only [j1, j2, j3, j4, j5]
     have hoth : ∀ k, k ≠ g1 + 1 → (w7.setCells (g1 + 1) 0 (prC m2.g pl (.slice A2 vs.length c2) mr2 r' v2 L').toList).heap[k]? = w7.heap[k]? := fun k hk => setCells_other hk _ _ _
     have HX9 : Hid (XO19 w0 w (w7.setCells (g1 + 1) 0 (prC m2.g pl (.slice A2 vs.length c2) mr2 r' v2 L').toList) m lo mr r v glx m2 D.2.1 _ _ lo2 (D.2.2.map (·.1)) mr2 r' v2 L' g1 (g1 + 1) (prC m2.g pl (.slice A2 vs.length c2) mr2 r' v2 L') (prC m2.g pl (.slice A2 vs.length c2) mr2 r' v2 L')) := jz (HX7.out.st2 (Blk.setAll _ HX7.out.b2 rfl) (setCells_below (Nat.le_refl _) _ _ _).1 hoth)
     have hSS9 : (fun W => Blk W g1 39 (prC m2.g pl (.slice A2 vs.length c2) mr2 r' v2 L')) (w7.setCells (g1 + 1) 0 (prC m2.g pl (.slice A2 vs.length c2) mr2 r' v2 L').toList) := HX9.out.b1
     refine jW [28] ?_
     refine jR 28 39 (.tmp 2) (.tmp 24) none (cs := (prC m2.g pl (.slice A2 vs.length c2) mr2 r' v2 L').toList) (there_all HX7.out.b2 rfl) (hlenP _ _ _ _ _ _ _) (list_oneO (prC_one HX7.out.pb)) hSS9 ?_ jN
     simp only [j1, j2, j3, j4, j5]
     refine jW [29] ?_
     refine jS 29 (.assign (.tmp 51)) (some 3) (.bool false) (w7.setCells (g1 + 1) 0 (prC m2.g pl (.slice A2 vs.length c2) mr2 r' v2 L').toList) hSS9 ?_ jN
     simp only [j1, j2, j3, j4, j5]
     refine wpAnyH_done (by kernel_rfl) ?_ _
     obtain ⟨wz, hwz⟩ : ∃ wz, wz = (w7.setCells (g1 + 1) 0 (prC m2.g pl (.slice A2 vs.length c2) mr2 r' v2 L').toList) := ⟨_, rfl⟩
     rw [← hwz] at HX9 ⊢
     clear hwz hSS9 hoth
     go_wp2_with fail
     have hrz := HX9.out.b2.range
     exact bodyPost_ret (results_cell1 rfl _ rfl hrz Tryz.underlying39 rfl (hlenP _ _ _ _ _ _ _)) rfl ⟨m2, _, _, lo2, mr2, v2, _, by rw [HRV.out]; rfl, HM2.out, by rw [HRV.out, ← HDE.out]; exact HX9.out.ret⟩
    | true =>
     cases k3 with
     | false =>
      obtain ⟨wS, hwS⟩ : ∃ wS, wS = w6.drew := ⟨_, rfl⟩
      have hbS : Below w6.heap.size w6 wS := by rw [hwS]; exact (Below.refl _ _).drew
      have HXS := jz (HX6.out.keep hbS)
      have HSS := jz (HSV.out.below hbS)
      clear hbS
      have HCL2 : Hid (∀ W, Blk W g1 39 (prC m2.g pl (.slice A2 vs.length c2) mr2 r' v2 L') → W.cell? ⟨g1, 2, none⟩ = some (.slice A2 vs.length c2)) := jz (fun W hB => (hB.cell 2).trans rfl)
      have HCL1 : Hid (∀ W, Blk W g1 39 (prC m2.g pl (.slice A2 vs.length c2) mr2 r' v2 L') → W.cell? ⟨g1, 1, none⟩ = some (pl)) := jz (fun W hB => (hB.cell 1).trans rfl)
      have HCL12 : Hid (∀ W, Blk W g1 39 (prC m2.g pl (.slice A2 vs.length c2) mr2 r' v2 L') → W.cell? ⟨g1, 12, none⟩ = some (.slice Ar L'.es.length cr)) := jz (fun W hB => by have h : W.cell? ⟨g1, 12, none⟩ = some v2 := (hB.cell 12).trans rfl; rw [h, HER.out])
      refine held_start 30 (fun W => Blk W g1 39 (prC m2.g pl (.slice A2 vs.length c2) mr2 r' v2 L')) (by kernel_rfl) (by kernel_rfl) (by rw [← hwS]; exact HXS.out.b1) (fun hHeld => ?_)
      rw [← hwS] at hHeld ⊢
      clear hwS
      refine jL 0 39 (.tmp 1) (some 24) (cs := (prC m2.g pl (.slice A2 vs.length c2) mr2 r' v2 L').toList) (fun _ hX => hX.range) Tryz.underlying39 rfl (hlenP _ _ _ _ _ _ _) hHeld ?_
      simp only [j1, j2, j3, j4, j5]
      refine jM 1 (.tmp 5) (some 25) (.nilIface) hHeld ?_
      simp only [j1, j2, j3, j4, j5]
      refine jM 3 (.tmp 4) (some 27) (.int .i64 c) hHeld ?_
      simp only [j1, j2, j3, j4, j5]
      refine jW [2] ?_
      refine jC 2 (.call { callee := .value (.func 22), args := #[.tmp 25], argTypes := #[53] }) (some 26) 22 (#[.nilIface]) ?_ jN
      refine (HC.out wS).mono ?_
      rintro e w7 ⟨rfl, hb7⟩
      have HX7 := jz (HXS.out.keep hb7)
      have HS7 := jz (HSS.out.below hb7)
      clear hb7
      refine ⟨_, rfl, HX7.out.b1, fun hHeld => ?_⟩
      simp only [j1, j2, j3, j4, j5]
      refine jT 4 (.binOp .eql 3 (.tmp 26) (.tmp 27) 3) (some 28) (.bool true) (hy := fun o ho wX hX => by have hk1 := HK1.out; unfold execOp; simp only [ho]; go_simp) hHeld ?_
      simp only [j1, j2, j3, j4, j5]
      refine jM 5 (.tmp 28) (some 29) (.bool true) hHeld ?_
      simp only [j1, j2, j3, j4, j5]
      refine jM 6 (.tmp 5) (some 30) (.nilIface) hHeld ?_
      simp only [j1, j2, j3, j4, j5]
      refine jT 7 (.binOp .eql 53 (.tmp 30) (.const .nilIface) 53) (some 31) (.bool true) hHeld ?_
      simp only [j1, j2, j3, j4, j5]
      refine jM 8 (.tmp 4) (some 32) (.int .i64 c) hHeld ?_
      simp only [j1, j2, j3, j4, j5]
      refine jT 9 (.binOp .eql 3 (.tmp 32) (.const (.int .i64 0)) 3) (some 33) (.bool true) (hy := fun o ho wX hX => by have hk2 := HK2.out; unfold execOp; simp only [ho]; go_simp) hHeld ?_
      simp only [j1, j2, j3, j4, j5]
      refine jT 10 (.binOp .eql 4 (.tmp 31) (.tmp 33) 4) (some 34) (.bool true) hHeld ?_
      simp only [j1, j2, j3, j4, j5]
      refine jT 11 (.pick (.tmp 29) (.tmp 34) (.const (.bool false))) (some 35) (.bool true) hHeld ?_
      simp only [j1, j2, j3, j4, j5]
      refine jM 12 (.tmp 35) (some 36) (.bool true) hHeld ?_
      simp only [j1, j2, j3, j4, j5]
      refine jT 13 (.fieldAddr 39 (.tmp 1) 2) (some 37) (.pointer (some ⟨g1, 2, none⟩)) hHeld ?_
      simp only [j1, j2, j3, j4, j5]
      refine jT 14 (.load 34 (.tmp 37)) (some 38) (.slice A2 vs.length c2) (hy := fun o ho wX hX => by have hcell := HCL2.out _ hX; unfold execOp; simp only [ho]; go_simp) hHeld ?_
      simp only [j1, j2, j3, j4, j5]
      refine jT 15 (.fieldAddr 39 (.tmp 1) 4) (some 39) (.pointer (some ⟨g1, 8, none⟩)) hHeld ?_
      simp only [j1, j2, j3, j4, j5]
      refine jT 16 (.fieldAddr 37 (.tmp 39) 4) (some 40) (.pointer (some ⟨g1, 12, none⟩)) hHeld ?_
      simp only [j1, j2, j3, j4, j5]
      refine jT 17 (.load 34 (.tmp 40)) (some 41) (.slice Ar L'.es.length cr) (hy := fun o ho wX hX => by have hcell := HCL12.out _ hX; unfold execOp; simp only [ho]; go_simp) hHeld ?_
      simp only [j1, j2, j3, j4, j5]
      refine jW [18] ?_
      refine jC 18 (.call { callee := .value (.func 16), args := #[.tmp 38, .tmp 41], argTypes := #[34, 34] }) (some 42) 16 (#[.slice A2 vs.length c2, .slice Ar L'.es.length cr]) ?_ jN
      refine (same_any (.slice A2 vs.length c2) (.slice Ar L'.es.length cr) vs L'.es w7 HS7.out HOK.out (by rw [← HER.out]; exact HX7.out.pb.rl.sn) HX7.out.pb.rl.ok hvl hes3).mono ?_
      rintro e w8 ⟨rfl, hb8⟩
      have HX8 := jz (HX7.out.keep hb8)
      clear hb8
      rw [HK3.out]
      refine ⟨_, rfl, HX8.out.b1, fun hHeld => ?_⟩
      simp only [j1, j2, j3, j4, j5]
      refine jT 19 (.pick (.tmp 36) (.tmp 42) (.const (.bool false))) (some 43) (.bool false) hHeld ?_
      simp only [j1, j2, j3, j4, j5]
      refine jM 20 (.tmp 43) (some 44) (.bool false) hHeld ?_
      simp only [j1, j2, j3, j4, j5]
      refine jK 21 (some 45) hHeld ?_
      simp only [j1, j2, j3, j4, j5]
      refine jK 22 (some 46) hHeld ?_
      simp only [j1, j2, j3, j4, j5]
      refine jK 23 (some 47) hHeld ?_
      simp only [j1, j2, j3, j4, j5]
      refine jK 24 (some 48) hHeld ?_
      simp only [j1, j2, j3, j4, j5]
      refine jK 25 (some 49) hHeld ?_
      simp only [j1, j2, j3, j4, j5]
      refine jK 26 (some 50) hHeld ?_
      simp only [j1, j2, j3, j4, j5]
      refine jT 27 (.pick (.tmp 44) (.tmp 50) (.const (.bool false))) (some 51) (.bool false) hHeld ?_
      simp only [j1, j2, j3, j4, j5]
      have hoth : ∀ k, k ≠ g1 + 1 → (w8.setCells (g1 + 1) 0 (prC m2.g pl (.slice A2 vs.length c2) mr2 r' v2 L').toList).heap[k]? = w8.heap[k]? := fun k hk => setCells_other hk _ _ _
      have HX9 : Hid (XO19 w0 w (w8.setCells (g1 + 1) 0 (prC m2.g pl (.slice A2 vs.length c2) mr2 r' v2 L').toList) m lo mr r v glx m2 D.2.1 _ _ lo2 (D.2.2.map (·.1)) mr2 r' v2 L' g1 (g1 + 1) (prC m2.g pl (.slice A2 vs.length c2) mr2 r' v2 L') (prC m2.g pl (.slice A2 vs.length c2) mr2 r' v2 L')) := jz (HX8.out.st2 (Blk.setAll _ HX8.out.b2 rfl) (setCells_below (Nat.le_refl _) _ _ _).1 hoth)
      have hSS9 : (fun W => Blk W g1 39 (prC m2.g pl (.slice A2 vs.length c2) mr2 r' v2 L')) (w8.setCells (g1 + 1) 0 (prC m2.g pl (.slice A2 vs.length c2) mr2 r' v2 L').toList) := HX9.out.b1
      refine jW [28] ?_
      refine jR 28 39 (.tmp 2) (.tmp 24) none (cs := (prC m2.g pl (.slice A2 vs.length c2) mr2 r' v2 L').toList) (there_all HX8.out.b2 rfl) (hlenP _ _ _ _ _ _ _) (list_oneO (prC_one HX8.out.pb)) hSS9 ?_ jN
      simp only [j1, j2, j3, j4, j5]
      refine jW [29] ?_
      refine jS 29 (.assign (.tmp 51)) (some 3) (.bool false) (w8.setCells (g1 + 1) 0 (prC m2.g pl (.slice A2 vs.length c2) mr2 r' v2 L').toList) hSS9 ?_ jN
      simp only [j1, j2, j3, j4, j5]
      refine wpAnyH_done (by kernel_rfl) ?_ _
      obtain ⟨wz, hwz⟩ : ∃ wz, wz = (w8.setCells (g1 + 1) 0 (prC m2.g pl (.slice A2 vs.length c2) mr2 r' v2 L').toList) := ⟨_, rfl⟩
      rw [← hwz] at HX9 ⊢
      clear hwz hSS9 hoth
      go_wp2_with fail
      have hrz := HX9.out.b2.range
      exact bodyPost_ret (results_cell1 rfl _ rfl hrz Tryz.underlying39 rfl (hlenP _ _ _ _ _ _ _)) rfl ⟨m2, _, _, lo2, mr2, v2, _, by rw [HRV.out]; rfl, HM2.out, by rw [HRV.out, ← HDE.out]; exact HX9.out.ret⟩
     | true =>
      rcases hpf with rfl | ⟨gq, rfl⟩
      ·obtain ⟨wS, hwS⟩ : ∃ wS, wS = w6.drew := ⟨_, rfl⟩
       have hbS : Below w6.heap.size w6 wS := by rw [hwS]; exact (Below.refl _ _).drew
       have HXS := jz (HX6.out.keep hbS)
       have HSS := jz (HSV.out.below hbS)
       clear hbS
       have HCL2 : Hid (∀ W, Blk W g1 39 (prC m2.g (.pointer none) (.slice A2 vs.length c2) mr2 r' v2 L') → W.cell? ⟨g1, 2, none⟩ = some (.slice A2 vs.length c2)) := jz (fun W hB => (hB.cell 2).trans rfl)
       have HCL1 : Hid (∀ W, Blk W g1 39 (prC m2.g (.pointer none) (.slice A2 vs.length c2) mr2 r' v2 L') → W.cell? ⟨g1, 1, none⟩ = some (.pointer none)) := jz (fun W hB => (hB.cell 1).trans rfl)
       have HCL12 : Hid (∀ W, Blk W g1 39 (prC m2.g (.pointer none) (.slice A2 vs.length c2) mr2 r' v2 L') → W.cell? ⟨g1, 12, none⟩ = some (.slice Ar L'.es.length cr)) := jz (fun W hB => by have h : W.cell? ⟨g1, 12, none⟩ = some v2 := (hB.cell 12).trans rfl; rw [h, HER.out])
       refine held_start 30 (fun W => Blk W g1 39 (prC m2.g (.pointer none) (.slice A2 vs.length c2) mr2 r' v2 L')) (by kernel_rfl) (by kernel_rfl) (by rw [← hwS]; exact HXS.out.b1) (fun hHeld => ?_)
       rw [← hwS] at hHeld ⊢
       clear hwS
       refine jL 0 39 (.tmp 1) (some 24) (cs := (prC m2.g (.pointer none) (.slice A2 vs.length c2) mr2 r' v2 L').toList) (fun _ hX => hX.range) Tryz.underlying39 rfl (hlenP _ _ _ _ _ _ _) hHeld ?_
       simp only [j1, j2, j3, j4, j5]
       refine jM 1 (.tmp 5) (some 25) (.nilIface) hHeld ?_
       simp only [j1, j2, j3, j4, j5]
       refine jM 3 (.tmp 4) (some 27) (.int .i64 c) hHeld ?_
       simp only [j1, j2, j3, j4, j5]
       refine jW [2] ?_
       refine jC 2 (.call { callee := .value (.func 22), args := #[.tmp 25], argTypes := #[53] }) (some 26) 22 (#[.nilIface]) ?_ jN
       refine (HC.out wS).mono ?_
       rintro e w7 ⟨rfl, hb7⟩
       have HX7 := jz (HXS.out.keep hb7)
       have HS7 := jz (HSS.out.below hb7)
       clear hb7
       refine ⟨_, rfl, HX7.out.b1, fun hHeld => ?_⟩
       simp only [j1, j2, j3, j4, j5]
       refine jT 4 (.binOp .eql 3 (.tmp 26) (.tmp 27) 3) (some 28) (.bool true) (hy := fun o ho wX hX => by have hk1 := HK1.out; unfold execOp; simp only [ho]; go_simp) hHeld ?_
       simp only [j1, j2, j3, j4, j5]
       refine jM 5 (.tmp 28) (some 29) (.bool true) hHeld ?_
       simp only [j1, j2, j3, j4, j5]
       refine jM 6 (.tmp 5) (some 30) (.nilIface) hHeld ?_
       simp only [j1, j2, j3, j4, j5]
       refine jT 7 (.binOp .eql 53 (.tmp 30) (.const .nilIface) 53) (some 31) (.bool true) hHeld ?_
       simp only [j1, j2, j3, j4, j5]
       refine jM 8 (.tmp 4) (some 32) (.int .i64 c) hHeld ?_
       simp only [j1, j2, j3, j4, j5]
       refine jT 9 (.binOp .eql 3 (.tmp 32) (.const (.int .i64 0)) 3) (some 33) (.bool true) (hy := fun o ho wX hX => by have hk2 := HK2.out; unfold execOp; simp only [ho]; go_simp) hHeld ?_
       simp only [j1, j2, j3, j4, j5]
       refine jT 10 (.binOp .eql 4 (.tmp 31) (.tmp 33) 4) (some 34) (.bool true) hHeld ?_
       simp only [j1, j2, j3, j4, j5]
       refine jT 11 (.pick (.tmp 29) (.tmp 34) (.const (.bool false))) (some 35) (.bool true) hHeld ?_
       simp only [j1, j2, j3, j4, j5]
       refine jM 12 (.tmp 35) (some 36) (.bool true) hHeld ?_
       simp only [j1, j2, j3, j4, j5]
       refine jT 13 (.fieldAddr 39 (.tmp 1) 2) (some 37) (.pointer (some ⟨g1, 2, none⟩)) hHeld ?_
       simp only [j1, j2, j3, j4, j5]
       refine jT 14 (.load 34 (.tmp 37)) (some 38) (.slice A2 vs.length c2) (hy := fun o ho wX hX => by have hcell := HCL2.out _ hX; unfold execOp; simp only [ho]; go_simp) hHeld ?_
       simp only [j1, j2, j3, j4, j5]
       refine jT 15 (.fieldAddr 39 (.tmp 1) 4) (some 39) (.pointer (some ⟨g1, 8, none⟩)) hHeld ?_
       simp only [j1, j2, j3, j4, j5]
       refine jT 16 (.fieldAddr 37 (.tmp 39) 4) (some 40) (.pointer (some ⟨g1, 12, none⟩)) hHeld ?_
       simp only [j1, j2, j3, j4, j5]
       refine jT 17 (.load 34 (.tmp 40)) (some 41) (.slice Ar L'.es.length cr) (hy := fun o ho wX hX => by have hcell := HCL12.out _ hX; unfold execOp; simp only [ho]; go_simp) hHeld ?_
       simp only [j1, j2, j3, j4, j5]
       refine jW [18] ?_
       refine jC 18 (.call { callee := .value (.func 16), args := #[.tmp 38, .tmp 41], argTypes := #[34, 34] }) (some 42) 16 (#[.slice A2 vs.length c2, .slice Ar L'.es.length cr]) ?_ jN
       refine (same_any (.slice A2 vs.length c2) (.slice Ar L'.es.length cr) vs L'.es w7 HS7.out HOK.out (by rw [← HER.out]; exact HX7.out.pb.rl.sn) HX7.out.pb.rl.ok hvl hes3).mono ?_
       rintro e w8 ⟨rfl, hb8⟩
       have HX8 := jz (HX7.out.keep hb8)
       clear hb8
       rw [HK3.out]
       refine ⟨_, rfl, HX8.out.b1, fun hHeld => ?_⟩
       simp only [j1, j2, j3, j4, j5]
       refine jT 19 (.pick (.tmp 36) (.tmp 42) (.const (.bool false))) (some 43) (.bool true) hHeld ?_
       simp only [j1, j2, j3, j4, j5]
       refine jM 20 (.tmp 43) (some 44) (.bool true) hHeld ?_
       simp only [j1, j2, j3, j4, j5]
       refine jT 21 (.fieldAddr 39 (.tmp 1) 1) (some 45) (.pointer (some ⟨g1, 1, none⟩)) hHeld ?_
       simp only [j1, j2, j3, j4, j5]
       refine jT 22 (.load 33 (.tmp 45)) (some 46) (.pointer none) (hy := fun o ho wX hX => by have hcell := HCL1.out _ hX; unfold execOp; simp only [ho]; go_simp) hHeld ?_
       simp only [j1, j2, j3, j4, j5]
       refine jT 23 (.binOp .eql 33 (.tmp 46) (.const (.pointer none)) 33) (some 47) (.bool true) hHeld ?_
       simp only [j1, j2, j3, j4, j5]
       refine jM 24 (.tmp 4) (some 48) (.int .i64 c) hHeld ?_
       simp only [j1, j2, j3, j4, j5]
       refine jT 25 (.binOp .neq 3 (.tmp 48) (.const (.int .i64 0)) 3) (some 49) (.bool false) (hy := fun o ho wX hX => by have hk2 := HK2n.out; unfold execOp; simp only [ho]; go_simp) hHeld ?_
       simp only [j1, j2, j3, j4, j5]
       refine jT 26 (.binOp .eql 4 (.tmp 47) (.tmp 49) 4) (some 50) (.bool false) hHeld ?_
       simp only [j1, j2, j3, j4, j5]
       refine jT 27 (.pick (.tmp 44) (.tmp 50) (.const (.bool false))) (some 51) (.bool false) hHeld ?_
       simp only [j1, j2, j3, j4, j5]
       have hoth : ∀ k, k ≠ g1 + 1 → (w8.setCells (g1 + 1) 0 (prC m2.g (.pointer none) (.slice A2 vs.length c2) mr2 r' v2 L').toList).heap[k]? = w8.heap[k]? := fun k hk => setCells_other hk _ _ _
       have HX9 : Hid (XO19 w0 w (w8.setCells (g1 + 1) 0 (prC m2.g (.pointer none) (.slice A2 vs.length c2) mr2 r' v2 L').toList) m lo mr r v glx m2 D.2.1 _ _ lo2 (D.2.2.map (·.1)) mr2 r' v2 L' g1 (g1 + 1) (prC m2.g (.pointer none) (.slice A2 vs.length c2) mr2 r' v2 L') (prC m2.g (.pointer none) (.slice A2 vs.length c2) mr2 r' v2 L')) := jz (HX8.out.st2 (Blk.setAll _ HX8.out.b2 rfl) (setCells_below (Nat.le_refl _) _ _ _).1 hoth)
       have hSS9 : (fun W => Blk W g1 39 (prC m2.g (.pointer none) (.slice A2 vs.length c2) mr2 r' v2 L')) (w8.setCells (g1 + 1) 0 (prC m2.g (.pointer none) (.slice A2 vs.length c2) mr2 r' v2 L').toList) := HX9.out.b1
       refine jW [28] ?_
       refine jR 28 39 (.tmp 2) (.tmp 24) none (cs := (prC m2.g (.pointer none) (.slice A2 vs.length c2) mr2 r' v2 L').toList) (there_all HX8.out.b2 rfl) (hlenP _ _ _ _ _ _ _) (list_oneO (prC_one HX8.out.pb)) hSS9 ?_ jN
       simp only [j1, j2, j3, j4, j5]
       refine jW [29] ?_
       refine jS 29 (.assign (.tmp 51)) (some 3) (.bool false) (w8.setCells (g1 + 1) 0 (prC m2.g (.pointer none) (.slice A2 vs.length c2) mr2 r' v2 L').toList) hSS9 ?_ jN
       simp only [j1, j2, j3, j4, j5]
       refine wpAnyH_done (by kernel_rfl) ?_ _
       obtain ⟨wz, hwz⟩ : ∃ wz, wz = (w8.setCells (g1 + 1) 0 (prC m2.g (.pointer none) (.slice A2 vs.length c2) mr2 r' v2 L').toList) := ⟨_, rfl⟩
       rw [← hwz] at HX9 ⊢
       clear hwz hSS9 hoth
       go_wp2_with fail
       have hrz := HX9.out.b2.range
       exact bodyPost_ret (results_cell1 rfl _ rfl hrz Tryz.underlying39 rfl (hlenP _ _ _ _ _ _ _)) rfl ⟨m2, _, _, lo2, mr2, v2, _, by rw [HRV.out]; rfl, HM2.out, by rw [HRV.out, ← HDE.out]; exact HX9.out.ret⟩
      ·obtain ⟨wS, hwS⟩ : ∃ wS, wS = w6.drew := ⟨_, rfl⟩
       have hbS : Below w6.heap.size w6 wS := by rw [hwS]; exact (Below.refl _ _).drew
       have HXS := jz (HX6.out.keep hbS)
       have HSS := jz (HSV.out.below hbS)
       clear hbS
       have HCL2 : Hid (∀ W, Blk W g1 39 (prC m2.g (.pointer (some ⟨gq, 0, none⟩)) (.slice A2 vs.length c2) mr2 r' v2 L') → W.cell? ⟨g1, 2, none⟩ = some (.slice A2 vs.length c2)) := jz (fun W hB => (hB.cell 2).trans rfl)
       have HCL1 : Hid (∀ W, Blk W g1 39 (prC m2.g (.pointer (some ⟨gq, 0, none⟩)) (.slice A2 vs.length c2) mr2 r' v2 L') → W.cell? ⟨g1, 1, none⟩ = some (.pointer (some ⟨gq, 0, none⟩))) := jz (fun W hB => (hB.cell 1).trans rfl)
       have HCL12 : Hid (∀ W, Blk W g1 39 (prC m2.g (.pointer (some ⟨gq, 0, none⟩)) (.slice A2 vs.length c2) mr2 r' v2 L') → W.cell? ⟨g1, 12, none⟩ = some (.slice Ar L'.es.length cr)) := jz (fun W hB => by have h : W.cell? ⟨g1, 12, none⟩ = some v2 := (hB.cell 12).trans rfl; rw [h, HER.out])
       refine held_start 30 (fun W => Blk W g1 39 (prC m2.g (.pointer (some ⟨gq, 0, none⟩)) (.slice A2 vs.length c2) mr2 r' v2 L')) (by kernel_rfl) (by kernel_rfl) (by rw [← hwS]; exact HXS.out.b1) (fun hHeld => ?_)
       rw [← hwS] at hHeld ⊢
       clear hwS
       refine jL 0 39 (.tmp 1) (some 24) (cs := (prC m2.g (.pointer (some ⟨gq, 0, none⟩)) (.slice A2 vs.length c2) mr2 r' v2 L').toList) (fun _ hX => hX.range) Tryz.underlying39 rfl (hlenP _ _ _ _ _ _ _) hHeld ?_
       simp only [j1, j2, j3, j4, j5]
       refine jM 1 (.tmp 5) (some 25) (.nilIface) hHeld ?_
       simp only [j1, j2, j3, j4, j5]
       refine jM 3 (.tmp 4) (some 27) (.int .i64 c) hHeld ?_
       simp only [j1, j2, j3, j4, j5]
       refine jW [2] ?_
       refine jC 2 (.call { callee := .value (.func 22), args := #[.tmp 25], argTypes := #[53] }) (some 26) 22 (#[.nilIface]) ?_ jN
       refine (HC.out wS).mono ?_
       rintro e w7 ⟨rfl, hb7⟩
       have HX7 := jz (HXS.out.keep hb7)
       have HS7 := jz (HSS.out.below hb7)
       clear hb7
       refine ⟨_, rfl, HX7.out.b1, fun hHeld => ?_⟩
       simp only [j1, j2, j3, j4, j5]
       refine jT 4 (.binOp .eql 3 (.tmp 26) (.tmp 27) 3) (some 28) (.bool true) (hy := fun o ho wX hX => by have hk1 := HK1.out; unfold execOp; simp only [ho]; go_simp) hHeld ?_
       simp only [j1, j2, j3, j4, j5]
       refine jM 5 (.tmp 28) (some 29) (.bool true) hHeld ?_
       simp only [j1, j2, j3, j4, j5]
       refine jM 6 (.tmp 5) (some 30) (.nilIface) hHeld ?_
       simp only [j1, j2, j3, j4, j5]
       refine jT 7 (.binOp .eql 53 (.tmp 30) (.const .nilIface) 53) (some 31) (.bool true) hHeld ?_
       simp only [j1, j2, j3, j4, j5]
       refine jM 8 (.tmp 4) (some 32) (.int .i64 c) hHeld ?_
       simp only [j1, j2, j3, j4, j5]
       refine jT 9 (.binOp .eql 3 (.tmp 32) (.const (.int .i64 0)) 3) (some 33) (.bool true) (hy := fun o ho wX hX => by have hk2 := HK2.out; unfold execOp; simp only [ho]; go_simp) hHeld ?_
       simp only [j1, j2, j3, j4, j5]
       refine jT 10 (.binOp .eql 4 (.tmp 31) (.tmp 33) 4) (some 34) (.bool true) hHeld ?_
       simp only [j1, j2, j3, j4, j5]
       refine jT 11 (.pick (.tmp 29) (.tmp 34) (.const (.bool false))) (some 35) (.bool true) hHeld ?_
       simp only [j1, j2, j3, j4, j5]
       refine jM 12 (.tmp 35) (some 36) (.bool true) hHeld ?_
       simp only [j1, j2, j3, j4, j5]
       refine jT 13 (.fieldAddr 39 (.tmp 1) 2) (some 37) (.pointer (some ⟨g1, 2, none⟩)) hHeld ?_
       simp only [j1, j2, j3, j4, j5]
       refine jT 14 (.load 34 (.tmp 37)) (some 38) (.slice A2 vs.length c2) (hy := fun o ho wX hX => by have hcell := HCL2.out _ hX; unfold execOp; simp only [ho]; go_simp) hHeld ?_
       simp only [j1, j2, j3, j4, j5]
       refine jT 15 (.fieldAddr 39 (.tmp 1) 4) (some 39) (.pointer (some ⟨g1, 8, none⟩)) hHeld ?_
       simp only [j1, j2, j3, j4, j5]
       refine jT 16 (.fieldAddr 37 (.tmp 39) 4) (some 40) (.pointer (some ⟨g1, 12, none⟩)) hHeld ?_
       simp only [j1, j2, j3, j4, j5]
       refine jT 17 (.load 34 (.tmp 40)) (some 41) (.slice Ar L'.es.length cr) (hy := fun o ho wX hX => by have hcell := HCL12.out _ hX; unfold execOp; simp only [ho]; go_simp) hHeld ?_
       simp only [j1, j2, j3, j4, j5]
       refine jW [18] ?_
       refine jC 18 (.call { callee := .value (.func 16), args := #[.tmp 38, .tmp 41], argTypes := #[34, 34] }) (some 42) 16 (#[.slice A2 vs.length c2, .slice Ar L'.es.length cr]) ?_ jN
       refine (same_any (.slice A2 vs.length c2) (.slice Ar L'.es.length cr) vs L'.es w7 HS7.out HOK.out (by rw [← HER.out]; exact HX7.out.pb.rl.sn) HX7.out.pb.rl.ok hvl hes3).mono ?_
       rintro e w8 ⟨rfl, hb8⟩
       have HX8 := jz (HX7.out.keep hb8)
       clear hb8
       rw [HK3.out]
       refine ⟨_, rfl, HX8.out.b1, fun hHeld => ?_⟩
       simp only [j1, j2, j3, j4, j5]
       refine jT 19 (.pick (.tmp 36) (.tmp 42) (.const (.bool false))) (some 43) (.bool true) hHeld ?_
       simp only [j1, j2, j3, j4, j5]
       refine jM 20 (.tmp 43) (some 44) (.bool true) hHeld ?_
       simp only [j1, j2, j3, j4, j5]
       refine jT 21 (.fieldAddr 39 (.tmp 1) 1) (some 45) (.pointer (some ⟨g1, 1, none⟩)) hHeld ?_
       simp only [j1, j2, j3, j4, j5]
       refine jT 22 (.load 33 (.tmp 45)) (some 46) (.pointer (some ⟨gq, 0, none⟩)) (hy := fun o ho wX hX => by have hcell := HCL1.out _ hX; unfold execOp; simp only [ho]; go_simp) hHeld ?_
       simp only [j1, j2, j3, j4, j5]
       refine jT 23 (.binOp .eql 33 (.tmp 46) (.const (.pointer none)) 33) (some 47) (.bool false) hHeld ?_
       simp only [j1, j2, j3, j4, j5]
       refine jM 24 (.tmp 4) (some 48) (.int .i64 c) hHeld ?_
       simp only [j1, j2, j3, j4, j5]
       refine jT 25 (.binOp .neq 3 (.tmp 48) (.const (.int .i64 0)) 3) (some 49) (.bool false) (hy := fun o ho wX hX => by have hk2 := HK2n.out; unfold execOp; simp only [ho]; go_simp) hHeld ?_
       simp only [j1, j2, j3, j4, j5]
       refine jT 26 (.binOp .eql 4 (.tmp 47) (.tmp 49) 4) (some 50) (.bool true) hHeld ?_
       simp only [j1, j2, j3, j4, j5]
       refine jT 27 (.pick (.tmp 44) (.tmp 50) (.const (.bool false))) (some 51) (.bool true) hHeld ?_
       simp only [j1, j2, j3, j4, j5]
       have hoth : ∀ k, k ≠ g1 + 1 → (w8.setCells (g1 + 1) 0 (prC m2.g (.pointer (some ⟨gq, 0, none⟩)) (.slice A2 vs.length c2) mr2 r' v2 L').toList).heap[k]? = w8.heap[k]? := fun k hk => setCells_other hk _ _ _
       have HX9 : Hid (XO19 w0 w (w8.setCells (g1 + 1) 0 (prC m2.g (.pointer (some ⟨gq, 0, none⟩)) (.slice A2 vs.length c2) mr2 r' v2 L').toList) m lo mr r v glx m2 D.2.1 _ _ lo2 (D.2.2.map (·.1)) mr2 r' v2 L' g1 (g1 + 1) (prC m2.g (.pointer (some ⟨gq, 0, none⟩)) (.slice A2 vs.length c2) mr2 r' v2 L') (prC m2.g (.pointer (some ⟨gq, 0, none⟩)) (.slice A2 vs.length c2) mr2 r' v2 L')) := jz (HX8.out.st2 (Blk.setAll _ HX8.out.b2 rfl) (setCells_below (Nat.le_refl _) _ _ _).1 hoth)
       have hSS9 : (fun W => Blk W g1 39 (prC m2.g (.pointer (some ⟨gq, 0, none⟩)) (.slice A2 vs.length c2) mr2 r' v2 L')) (w8.setCells (g1 + 1) 0 (prC m2.g (.pointer (some ⟨gq, 0, none⟩)) (.slice A2 vs.length c2) mr2 r' v2 L').toList) := HX9.out.b1
       refine jW [28] ?_
       refine jR 28 39 (.tmp 2) (.tmp 24) none (cs := (prC m2.g (.pointer (some ⟨gq, 0, none⟩)) (.slice A2 vs.length c2) mr2 r' v2 L').toList) (there_all HX8.out.b2 rfl) (hlenP _ _ _ _ _ _ _) (list_oneO (prC_one HX8.out.pb)) hSS9 ?_ jN
       simp only [j1, j2, j3, j4, j5]
       refine jW [29] ?_
       refine jS 29 (.assign (.tmp 51)) (some 3) (.bool true) (w8.setCells (g1 + 1) 0 (prC m2.g (.pointer (some ⟨gq, 0, none⟩)) (.slice A2 vs.length c2) mr2 r' v2 L').toList) hSS9 ?_ jN
       simp only [j1, j2, j3, j4, j5]
       refine wpAnyH_done (by kernel_rfl) ?_ _
       obtain ⟨wz, hwz⟩ : ∃ wz, wz = (w8.setCells (g1 + 1) 0 (prC m2.g (.pointer (some ⟨gq, 0, none⟩)) (.slice A2 vs.length c2) mr2 r' v2 L').toList) := ⟨_, rfl⟩
       rw [← hwz] at HX9 ⊢
       clear hwz hSS9 hoth
       go_wp2_with fail
       have hrz := HX9.out.b2.range
       exact bodyPost_ret (results_cell1 rfl _ rfl hrz Tryz.underlying39 rfl (hlenP _ _ _ _ _ _ _)) rfl ⟨m2, _, _, lo2, mr2, v2, _, by rw [HRV.out]; rfl, HM2.out, by rw [HRV.out, ← HDE.out]; exact HX9.out.ret⟩
  | some y =>
   obtain ⟨ti, ui, hv⟩ := valE_form y
   have HC := jz (fun W => code19 (some y) W HCC.out)
   rw [hv] at HC ⊢
   have hnf : ∀ w, (binOp .eql 53 (.iface ti ui) .nilIface).run Tryz.prog w = .ok (.bool false) w := fun w => by kernel_rfl
   clear hv
   cases k1 with
   | false =>
    obtain ⟨wS, hwS⟩ : ∃ wS, wS = w6.drew := ⟨_, rfl⟩
    have hbS : Below w6.heap.size w6 wS := by rw [hwS]; exact (Below.refl _ _).drew
    have HXS := jz (HX6.out.keep hbS)
    have HSS := jz (HSV.out.below hbS)
    clear hbS
    have HCL2 : Hid (∀ W, Blk W g1 39 (prC m2.g pl (.slice A2 vs.length c2) mr2 r' v2 L') → W.cell? ⟨g1, 2, none⟩ = some (.slice A2 vs.length c2)) := jz (fun W hB => (hB.cell 2).trans rfl)
    have HCL1 : Hid (∀ W, Blk W g1 39 (prC m2.g pl (.slice A2 vs.length c2) mr2 r' v2 L') → W.cell? ⟨g1, 1, none⟩ = some (pl)) := jz (fun W hB => (hB.cell 1).trans rfl)
    have HCL12 : Hid (∀ W, Blk W g1 39 (prC m2.g pl (.slice A2 vs.length c2) mr2 r' v2 L') → W.cell? ⟨g1, 12, none⟩ = some (.slice Ar L'.es.length cr)) := jz (fun W hB => by have h : W.cell? ⟨g1, 12, none⟩ = some v2 := (hB.cell 12).trans rfl; rw [h, HER.out])
    refine held_start 30 (fun W => Blk W g1 39 (prC m2.g pl (.slice A2 vs.length c2) mr2 r' v2 L')) (by kernel_rfl) (by kernel_rfl) (by rw [← hwS]; exact HXS.out.b1) (fun hHeld => ?_)
    rw [← hwS] at hHeld ⊢
    clear hwS
    refine jL 0 39 (.tmp 1) (some 24) (cs := (prC m2.g pl (.slice A2 vs.length c2) mr2 r' v2 L').toList) (fun _ hX => hX.range) Tryz.underlying39 rfl (hlenP _ _ _ _ _ _ _) hHeld ?_
    simp only [j1, j2, j3, j4, j5]
    refine jM 1 (.tmp 5) (some 25) (.iface ti ui) hHeld ?_
    simp only [j1, j2, j3, j4, j5]
    refine jM 3 (.tmp 4) (some 27) (.int .i64 c) hHeld ?_
    simp only [j1, j2, j3, j4, j5]
    refine jW [2] ?_
    refine jC 2 (.call { callee := .value (.func 22), args := #[.tmp 25], argTypes := #[53] }) (some 26) 22 (#[.iface ti ui]) ?_ jN
    refine (HC.out wS).mono ?_
    rintro e w7 ⟨rfl, hb7⟩
    have HX7 := jz (HXS.out.keep hb7)
    have HS7 := jz (HSS.out.below hb7)
    clear hb7
    refine ⟨_, rfl, HX7.out.b1, fun hHeld => ?_⟩
    simp only [j1, j2, j3, j4, j5]
    refine jT 4 (.binOp .eql 3 (.tmp 26) (.tmp 27) 3) (some 28) (.bool false) (hy := fun o ho wX hX => by have hk1 := HK1.out; unfold execOp; simp only [ho]; go_simp) hHeld ?_
    simp only [j1, j2, j3, j4, j5]
    refine jM 5 (.tmp 28) (some 29) (.bool false) hHeld ?_
    simp only [j1, j2, j3, j4, j5]
    refine jK 6 (some 30) hHeld ?_
    simp only [j1, j2, j3, j4, j5]
    refine jK 7 (some 31) hHeld ?_
    simp only [j1, j2, j3, j4, j5]
    refine jK 8 (some 32) hHeld ?_
    simp only [j1, j2, j3, j4, j5]
    refine jK 9 (some 33) hHeld ?_
    simp only [j1, j2, j3, j4, j5]
    refine jK 10 (some 34) hHeld ?_
    simp only [j1, j2, j3, j4, j5]
    refine jT 11 (.pick (.tmp 29) (.tmp 34) (.const (.bool false))) (some 35) (.bool false) hHeld ?_
    simp only [j1, j2, j3, j4, j5]
    refine jM 12 (.tmp 35) (some 36) (.bool false) hHeld ?_
    simp only [j1, j2, j3, j4, j5]
    refine jK 13 (some 37) hHeld ?_
    simp only [j1, j2, j3, j4, j5]
    refine jK 14 (some 38) hHeld ?_
    simp only [j1, j2, j3, j4, j5]
    refine jK 15 (some 39) hHeld ?_
    simp only [j1, j2, j3, j4, j5]
    refine jK 16 (some 40) hHeld ?_
    simp only [j1, j2, j3, j4, j5]
    refine jK 17 (some 41) hHeld ?_
    simp only [j1, j2, j3, j4, j5]
    refine jK 18 (some 42) hHeld ?_
    simp only [j1, j2, j3, j4, j5]
    refine jT 19 (.pick (.tmp 36) (.tmp 42) (.const (.bool false))) (some 43) (.bool false) hHeld ?_
    simp only [j1, j2, j3, j4, j5]
    refine jM 20 (.tmp 43) (some 44) (.bool false) hHeld ?_
    simp only [j1, j2, j3, j4, j5]
    refine jK 21 (some 45) hHeld ?_
    simp only [j1, j2, j3, j4, j5]
    refine jK 22 (some 46) hHeld ?_
    simp only [j1, j2, j3, j4, j5]
    refine jK 23 (some 47) hHeld ?_
    simp only [j1, j2, j3, j4, j5]
    refine jK 24 (some 48) hHeld ?_
    simp only [j1, j2, j3, j4, j5]
    refine jK 25 (some 49) hHeld ?_
    simp only [j1, j2, j3, j4, j5]
    refine jK 26 (some 50) hHeld ?_
    simp only [j1, j2, j3, j4, j5]
    refine jT 27 (.pick (.tmp 44) (.tmp 50) (.const (.bool false))) (some 51) (.bool false) hHeld ?_
    simp only [j1, j2, j3, j4, j5]
    have hoth : ∀ k, k ≠ g1 + 1 → (w7.setCells (g1 + 1) 0 (prC m2.g pl (.slice A2 vs.length c2) mr2 r' v2 L').toList).heap[k]? = w7.heap[k]? := fun k hk => setCells_other hk _ _ _
    have HX9 : Hid (XO19 w0 w (w7.setCells (g1 + 1) 0 (prC m2.g pl (.slice A2 vs.length c2) mr2 r' v2 L').toList) m lo mr r v glx m2 D.2.1 _ _ lo2 (D.2.2.map (·.1)) mr2 r' v2 L' g1 (g1 + 1) (prC m2.g pl (.slice A2 vs.length c2) mr2 r' v2 L') (prC m2.g pl (.slice A2 vs.length c2) mr2 r' v2 L')) := jz (HX7.out.st2 (Blk.setAll _ HX7.out.b2 rfl) (setCells_below (Nat.le_refl _) _ _ _).1 hoth)
    have hSS9 : (fun W => Blk W g1 39 (prC m2.g pl (.slice A2 vs.length c2) mr2 r' v2 L')) (w7.setCells (g1 + 1) 0 (prC m2.g pl (.slice A2 vs.length c2) mr2 r' v2 L').toList) := HX9.out.b1
    refine jW [28] ?_
    refine jR 28 39 (.tmp 2) (.tmp 24) none (cs := (prC m2.g pl (.slice A2 vs.length c2) mr2 r' v2 L').toList) (there_all HX7.out.b2 rfl) (hlenP _ _ _ _ _ _ _) (list_oneO (prC_one HX7.out.pb)) hSS9 ?_ jN
    simp only [j1, j2, j3, j4, j5]
    refine jW [29] ?_
    refine jS 29 (.assign (.tmp 51)) (some 3) (.bool false) (w7.setCells (g1 + 1) 0 (prC m2.g pl (.slice A2 vs.length c2) mr2 r' v2 L').toList) hSS9 ?_ jN
    simp only [j1, j2, j3, j4, j5]
    refine wpAnyH_done (by kernel_rfl) ?_ _
    obtain ⟨wz, hwz⟩ : ∃ wz, wz = (w7.setCells (g1 + 1) 0 (prC m2.g pl (.slice A2 vs.length c2) mr2 r' v2 L').toList) := ⟨_, rfl⟩
    rw [← hwz] at HX9 ⊢
    clear hwz hSS9 hoth
    go_wp2_with fail
    have hrz := HX9.out.b2.range
    exact bodyPost_ret (results_cell1 rfl _ rfl hrz Tryz.underlying39 rfl (hlenP _ _ _ _ _ _ _)) rfl ⟨m2, _, _, lo2, mr2, v2, _, by rw [HRV.out]; rfl, HM2.out, by rw [HRV.out, ← HDE.out]; exact HX9.out.ret⟩
   | true =>
    cases k2 with
    | false =>
     cases k3 with
     | false =>
      obtain ⟨wS, hwS⟩ : ∃ wS, wS = w6.drew := ⟨_, rfl⟩
      have hbS : Below w6.heap.size w6 wS := by rw [hwS]; exact (Below.refl _ _).drew
      have HXS := jz (HX6.out.keep hbS)
      have HSS := jz (HSV.out.below hbS)
      clear hbS
      have HCL2 : Hid (∀ W, Blk W g1 39 (prC m2.g pl (.slice A2 vs.length c2) mr2 r' v2 L') → W.cell? ⟨g1, 2, none⟩ = some (.slice A2 vs.length c2)) := jz (fun W hB => (hB.cell 2).trans rfl)
      have HCL1 : Hid (∀ W, Blk W g1 39 (prC m2.g pl (.slice A2 vs.length c2) mr2 r' v2 L') → W.cell? ⟨g1, 1, none⟩ = some (pl)) := jz (fun W hB => (hB.cell 1).trans rfl)
      have HCL12 : Hid (∀ W, Blk W g1 39 (prC m2.g pl (.slice A2 vs.length c2) mr2 r' v2 L') → W.cell? ⟨g1, 12, none⟩ = some (.slice Ar L'.es.length cr)) := jz (fun W hB => by have h : W.cell? ⟨g1, 12, none⟩ = some v2 := (hB.cell 12).trans rfl; rw [h, HER.out])
      refine held_start 30 (fun W => Blk W g1 39 (prC m2.g pl (.slice A2 vs.length c2) mr2 r' v2 L')) (by kernel_rfl) (by kernel_rfl) (by rw [← hwS]; exact HXS.out.b1) (fun hHeld => ?_)
      rw [← hwS] at hHeld ⊢
      clear hwS
      refine jL 0 39 (.tmp 1) (some 24) (cs := (prC m2.g pl (.slice A2 vs.length c2) mr2 r' v2 L').toList) (fun _ hX => hX.range) Tryz.underlying39 rfl (hlenP _ _ _ _ _ _ _) hHeld ?_
      simp only [j1, j2, j3, j4, j5]
      refine jM 1 (.tmp 5) (some 25) (.iface ti ui) hHeld ?_
      simp only [j1, j2, j3, j4, j5]
      refine jM 3 (.tmp 4) (some 27) (.int .i64 c) hHeld ?_
      simp only [j1, j2, j3, j4, j5]
      refine jW [2] ?_
      refine jC 2 (.call { callee := .value (.func 22), args := #[.tmp 25], argTypes := #[53] }) (some 26) 22 (#[.iface ti ui]) ?_ jN
      refine (HC.out wS).mono ?_
      rintro e w7 ⟨rfl, hb7⟩
      have HX7 := jz (HXS.out.keep hb7)
      have HS7 := jz (HSS.out.below hb7)
      clear hb7
      refine ⟨_, rfl, HX7.out.b1, fun hHeld => ?_⟩
      simp only [j1, j2, j3, j4, j5]
      refine jT 4 (.binOp .eql 3 (.tmp 26) (.tmp 27) 3) (some 28) (.bool true) (hy := fun o ho wX hX => by have hk1 := HK1.out; unfold execOp; simp only [ho]; go_simp) hHeld ?_
      simp only [j1, j2, j3, j4, j5]
      refine jM 5 (.tmp 28) (some 29) (.bool true) hHeld ?_
      simp only [j1, j2, j3, j4, j5]
      refine jM 6 (.tmp 5) (some 30) (.iface ti ui) hHeld ?_
      simp only [j1, j2, j3, j4, j5]
      refine jT 7 (.binOp .eql 53 (.tmp 30) (.const .nilIface) 53) (some 31) (.bool false) hHeld ?_
      simp only [j1, j2, j3, j4, j5]
      refine jM 8 (.tmp 4) (some 32) (.int .i64 c) hHeld ?_
      simp only [j1, j2, j3, j4, j5]
      refine jT 9 (.binOp .eql 3 (.tmp 32) (.const (.int .i64 0)) 3) (some 33) (.bool false) (hy := fun o ho wX hX => by have hk2 := HK2.out; unfold execOp; simp only [ho]; go_simp) hHeld ?_
      simp only [j1, j2, j3, j4, j5]
      refine jT 10 (.binOp .eql 4 (.tmp 31) (.tmp 33) 4) (some 34) (.bool true) hHeld ?_
      simp only [j1, j2, j3, j4, j5]
      refine jT 11 (.pick (.tmp 29) (.tmp 34) (.const (.bool false))) (some 35) (.bool true) hHeld ?_
      simp only [j1, j2, j3, j4, j5]
      refine jM 12 (.tmp 35) (some 36) (.bool true) hHeld ?_
      simp only [j1, j2, j3, j4, j5]
      refine jT 13 (.fieldAddr 39 (.tmp 1) 2) (some 37) (.pointer (some ⟨g1, 2, none⟩)) hHeld ?_
      simp only [j1, j2, j3, j4, j5]
      refine jT 14 (.load 34 (.tmp 37)) (some 38) (.slice A2 vs.length c2) (hy := fun o ho wX hX => by have hcell := HCL2.out _ hX; unfold execOp; simp only [ho]; go_simp) hHeld ?_
      simp only [j1, j2, j3, j4, j5]
      refine jT 15 (.fieldAddr 39 (.tmp 1) 4) (some 39) (.pointer (some ⟨g1, 8, none⟩)) hHeld ?_
      simp only [j1, j2, j3, j4, j5]
      refine jT 16 (.fieldAddr 37 (.tmp 39) 4) (some 40) (.pointer (some ⟨g1, 12, none⟩)) hHeld ?_
      simp only [j1, j2, j3, j4, j5]
      refine jT 17 (.load 34 (.tmp 40)) (some 41) (.slice Ar L'.es.length cr) (hy := fun o ho wX hX => by have hcell := HCL12.out _ hX; unfold execOp; simp only [ho]; go_simp) hHeld ?_
      simp only [j1, j2, j3, j4, j5]
      refine jW [18] ?_
      refine jC 18 (.call { callee := .value (.func 16), args := #[.tmp 38, .tmp 41], argTypes := #[34, 34] }) (some 42) 16 (#[.slice A2 vs.length c2, .slice Ar L'.es.length cr]) ?_ jN
      refine (same_any (.slice A2 vs.length c2) (.slice Ar L'.es.length cr) vs L'.es w7 HS7.out HOK.out (by rw [← HER.out]; exact HX7.out.pb.rl.sn) HX7.out.pb.rl.ok hvl hes3).mono ?_
      rintro e w8 ⟨rfl, hb8⟩
      have HX8 := jz (HX7.out.keep hb8)
      clear hb8
      rw [HK3.out]
      refine ⟨_, rfl, HX8.out.b1, fun hHeld => ?_⟩
      simp only [j1, j2, j3, j4, j5]
      refine jT 19 (.pick (.tmp 36) (.tmp 42) (.const (.bool false))) (some 43) (.bool false) hHeld ?_
      simp only [j1, j2, j3, j4, j5]
      refine jM 20 (.tmp 43) (some 44) (.bool false) hHeld ?_
      simp only [j1, j2, j3, j4, j5]
      refine jK 21 (some 45) hHeld ?_
      simp only [j1, j2, j3, j4, j5]
      refine jK 22 (some 46) hHeld ?_
      simp only [j1, j2, j3, j4, j5]
      refine jK 23 (some 47) hHeld ?_
      simp only [j1, j2, j3, j4, j5]
      refine jK 24 (some 48) hHeld ?_
      simp only [j1, j2, j3, j4, j5]
      refine jK 25 (some 49) hHeld ?_
      simp only [j1, j2, j3, j4, j5]
      refine jK 26 (some 50) hHeld ?_
      simp only [j1, j2, j3, j4, j5]
      refine jT 27 (.pick (.tmp 44) (.tmp 50) (.const (.bool false))) (some 51) (.bool false) hHeld ?_
      simp only [j1, j2, j3, j4, j5]
      have hoth : ∀ k, k ≠ g1 + 1 → (w8.setCells (g1 + 1) 0 (prC m2.g pl (.slice A2 vs.length c2) mr2 r' v2 L').toList).heap[k]? = w8.heap[k]? := fun k hk => setCells_other hk _ _ _
      have HX9 : Hid (XO19 w0 w (w8.setCells (g1 + 1) 0 (prC m2.g pl (.slice A2 vs.length c2) mr2 r' v2 L').toList) m lo mr r v glx m2 D.2.1 _ _ lo2 (D.2.2.map (·.1)) mr2 r' v2 L' g1 (g1 + 1) (prC m2.g pl (.slice A2 vs.length c2) mr2 r' v2 L') (prC m2.g pl (.slice A2 vs.length c2) mr2 r' v2 L')) := jz (HX8.out.st2 (Blk.setAll _ HX8.out.b2 rfl) (setCells_below (Nat.le_refl _) _ _ _).1 hoth)
      have hSS9 : (fun W => Blk W g1 39 (prC m2.g pl (.slice A2 vs.length c2) mr2 r' v2 L')) (w8.setCells (g1 + 1) 0 (prC m2.g pl (.slice A2 vs.length c2) mr2 r' v2 L').toList) := HX9.out.b1
      refine jW [28] ?_
      refine jR 28 39 (.tmp 2) (.tmp 24) none (cs := (prC m2.g pl (.slice A2 vs.length c2) mr2 r' v2 L').toList) (there_all HX8.out.b2 rfl) (hlenP _ _ _ _ _ _ _) (list_oneO (prC_one HX8.out.pb)) hSS9 ?_ jN
      simp only [j1, j2, j3, j4, j5]
      refine jW [29] ?_
      refine jS 29 (.assign (.tmp 51)) (some 3) (.bool false) (w8.setCells (g1 + 1) 0 (prC m2.g pl (.slice A2 vs.length c2) mr2 r' v2 L').toList) hSS9 ?_ jN
      simp only [j1, j2, j3, j4, j5]
      refine wpAnyH_done (by kernel_rfl) ?_ _
      obtain ⟨wz, hwz⟩ : ∃ wz, wz = (w8.setCells (g1 + 1) 0 (prC m2.g pl (.slice A2 vs.length c2) mr2 r' v2 L').toList) := ⟨_, rfl⟩
      rw [← hwz] at HX9 ⊢
      clear hwz hSS9 hoth
      go_wp2_with fail
      have hrz := HX9.out.b2.range
      exact bodyPost_ret (results_cell1 rfl _ rfl hrz Tryz.underlying39 rfl (hlenP _ _ _ _ _ _ _)) rfl ⟨m2, _, _, lo2, mr2, v2, _, by rw [HRV.out]; rfl, HM2.out, by rw [HRV.out, ← HDE.out]; exact HX9.out.ret⟩
     | true =>
      rcases hpf with rfl | ⟨gq, rfl⟩
      ·obtain ⟨wS, hwS⟩ : ∃ wS, wS = w6.drew := ⟨_, rfl⟩
       have hbS : Below w6.heap.size w6 wS := by rw [hwS]; exact (Below.refl _ _).drew
       have HXS := jz (HX6.out.keep hbS)
       have HSS := jz (HSV.out.below hbS)
       clear hbS
       have HCL2 : Hid (∀ W, Blk W g1 39 (prC m2.g (.pointer none) (.slice A2 vs.length c2) mr2 r' v2 L') → W.cell? ⟨g1, 2, none⟩ = some (.slice A2 vs.length c2)) := jz (fun W hB => (hB.cell 2).trans rfl)
       have HCL1 : Hid (∀ W, Blk W g1 39 (prC m2.g (.pointer none) (.slice A2 vs.length c2) mr2 r' v2 L') → W.cell? ⟨g1, 1, none⟩ = some (.pointer none)) := jz (fun W hB => (hB.cell 1).trans rfl)
       have HCL12 : Hid (∀ W, Blk W g1 39 (prC m2.g (.pointer none) (.slice A2 vs.length c2) mr2 r' v2 L') → W.cell? ⟨g1, 12, none⟩ = some (.slice Ar L'.es.length cr)) := jz (fun W hB => by have h : W.cell? ⟨g1, 12, none⟩ = some v2 := (hB.cell 12).trans rfl; rw [h, HER.out])
       refine held_start 30 (fun W => Blk W g1 39 (prC m2.g (.pointer none) (.slice A2 vs.length c2) mr2 r' v2 L')) (by kernel_rfl) (by kernel_rfl) (by rw [← hwS]; exact HXS.out.b1) (fun hHeld => ?_)
       rw [← hwS] at hHeld ⊢
       clear hwS
       refine jL 0 39 (.tmp 1) (some 24) (cs := (prC m2.g (.pointer none) (.slice A2 vs.length c2) mr2 r' v2 L').toList) (fun _ hX => hX.range) Tryz.underlying39 rfl (hlenP _ _ _ _ _ _ _) hHeld ?_
       simp only [j1, j2, j3, j4, j5]
       refine jM 1 (.tmp 5) (some 25) (.iface ti ui) hHeld ?_
       simp only [j1, j2, j3, j4, j5]
       refine jM 3 (.tmp 4) (some 27) (.int .i64 c) hHeld ?_
       simp only [j1, j2, j3, j4, j5]
       refine jW [2] ?_
       refine jC 2 (.call { callee := .value (.func 22), args := #[.tmp 25], argTypes := #[53] }) (some 26) 22 (#[.iface ti ui]) ?_ jN
       refine (HC.out wS).mono ?_
       rintro e w7 ⟨rfl, hb7⟩
       have HX7 := jz (HXS.out.keep hb7)
       have HS7 := jz (HSS.out.below hb7)
       clear hb7
       refine ⟨_, rfl, HX7.out.b1, fun hHeld => ?_⟩
       simp only [j1, j2, j3, j4, j5]
       refine jT 4 (.binOp .eql 3 (.tmp 26) (.tmp 27) 3) (some 28) (.bool true) (hy := fun o ho wX hX => by have hk1 := HK1.out; unfold execOp; simp only [ho]; go_simp) hHeld ?_
       simp only [j1, j2, j3, j4, j5]
       refine jM 5 (.tmp 28) (some 29) (.bool true) hHeld ?_
       simp only [j1, j2, j3, j4, j5]
       refine jM 6 (.tmp 5) (some 30) (.iface ti ui) hHeld ?_
       simp only [j1, j2, j3, j4, j5]
       refine jT 7 (.binOp .eql 53 (.tmp 30) (.const .nilIface) 53) (some 31) (.bool false) hHeld ?_
       simp only [j1, j2, j3, j4, j5]
       refine jM 8 (.tmp 4) (some 32) (.int .i64 c) hHeld ?_
       simp only [j1, j2, j3, j4, j5]
       refine jT 9 (.binOp .eql 3 (.tmp 32) (.const (.int .i64 0)) 3) (some 33) (.bool false) (hy := fun o ho wX hX => by have hk2 := HK2.out; unfold execOp; simp only [ho]; go_simp) hHeld ?_
       simp only [j1, j2, j3, j4, j5]
       refine jT 10 (.binOp .eql 4 (.tmp 31) (.tmp 33) 4) (some 34) (.bool true) hHeld ?_
       simp only [j1, j2, j3, j4, j5]
       refine jT 11 (.pick (.tmp 29) (.tmp 34) (.const (.bool false))) (some 35) (.bool true) hHeld ?_
       simp only [j1, j2, j3, j4, j5]
       refine jM 12 (.tmp 35) (some 36) (.bool true) hHeld ?_
       simp only [j1, j2, j3, j4, j5]
       refine jT 13 (.fieldAddr 39 (.tmp 1) 2) (some 37) (.pointer (some ⟨g1, 2, none⟩)) hHeld ?_
       simp only [j1, j2, j3, j4, j5]
       refine jT 14 (.load 34 (.tmp 37)) (some 38) (.slice A2 vs.length c2) (hy := fun o ho wX hX => by have hcell := HCL2.out _ hX; unfold execOp; simp only [ho]; go_simp) hHeld ?_
       simp only [j1, j2, j3, j4, j5]
       refine jT 15 (.fieldAddr 39 (.tmp 1) 4) (some 39) (.pointer (some ⟨g1, 8, none⟩)) hHeld ?_
       simp only [j1, j2, j3, j4, j5]
       refine jT 16 (.fieldAddr 37 (.tmp 39) 4) (some 40) (.pointer (some ⟨g1, 12, none⟩)) hHeld ?_
       simp only [j1, j2, j3, j4, j5]
       refine jT 17 (.load 34 (.tmp 40)) (some 41) (.slice Ar L'.es.length cr) (hy := fun o ho wX hX => by have hcell := HCL12.out _ hX; unfold execOp; simp only [ho]; go_simp) hHeld ?_
       simp only [j1, j2, j3, j4, j5]
       refine jW [18] ?_
       refine jC 18 (.call { callee := .value (.func 16), args := #[.tmp 38, .tmp 41], argTypes := #[34, 34] }) (some 42) 16 (#[.slice A2 vs.length c2, .slice Ar L'.es.length cr]) ?_ jN
       refine (same_any (.slice A2 vs.length c2) (.slice Ar L'.es.length cr) vs L'.es w7 HS7.out HOK.out (by rw [← HER.out]; exact HX7.out.pb.rl.sn) HX7.out.pb.rl.ok hvl hes3).mono ?_
       rintro e w8 ⟨rfl, hb8⟩
       have HX8 := jz (HX7.out.keep hb8)
       clear hb8
       rw [HK3.out]
       refine ⟨_, rfl, HX8.out.b1, fun hHeld => ?_⟩
       simp only [j1, j2, j3, j4, j5]
       refine jT 19 (.pick (.tmp 36) (.tmp 42) (.const (.bool false))) (some 43) (.bool true) hHeld ?_
       simp only [j1, j2, j3, j4, j5]
       refine jM 20 (.tmp 43) (some 44) (.bool true) hHeld ?_
       simp only [j1, j2, j3, j4, j5]
       refine jT 21 (.fieldAddr 39 (.tmp 1) 1) (some 45) (.pointer (some ⟨g1, 1, none⟩)) hHeld ?_
       simp only [j1, j2, j3, j4, j5]
       refine jT 22 (.load 33 (.tmp 45)) (some 46) (.pointer none) (hy := fun o ho wX hX => by have hcell := HCL1.out _ hX; unfold execOp; simp only [ho]; go_simp) hHeld ?_
       simp only [j1, j2, j3, j4, j5]
       refine jT 23 (.binOp .eql 33 (.tmp 46) (.const (.pointer none)) 33) (some 47) (.bool true) hHeld ?_
       simp only [j1, j2, j3, j4, j5]
       refine jM 24 (.tmp 4) (some 48) (.int .i64 c) hHeld ?_
       simp only [j1, j2, j3, j4, j5]
       refine jT 25 (.binOp .neq 3 (.tmp 48) (.const (.int .i64 0)) 3) (some 49) (.bool true) (hy := fun o ho wX hX => by have hk2 := HK2n.out; unfold execOp; simp only [ho]; go_simp) hHeld ?_
       simp only [j1, j2, j3, j4, j5]
       refine jT 26 (.binOp .eql 4 (.tmp 47) (.tmp 49) 4) (some 50) (.bool true) hHeld ?_
       simp only [j1, j2, j3, j4, j5]
       refine jT 27 (.pick (.tmp 44) (.tmp 50) (.const (.bool false))) (some 51) (.bool true) hHeld ?_
       simp only [j1, j2, j3, j4, j5]
       have hoth : ∀ k, k ≠ g1 + 1 → (w8.setCells (g1 + 1) 0 (prC m2.g (.pointer none) (.slice A2 vs.length c2) mr2 r' v2 L').toList).heap[k]? = w8.heap[k]? := fun k hk => setCells_other hk _ _ _
       have HX9 : Hid (XO19 w0 w (w8.setCells (g1 + 1) 0 (prC m2.g (.pointer none) (.slice A2 vs.length c2) mr2 r' v2 L').toList) m lo mr r v glx m2 D.2.1 _ _ lo2 (D.2.2.map (·.1)) mr2 r' v2 L' g1 (g1 + 1) (prC m2.g (.pointer none) (.slice A2 vs.length c2) mr2 r' v2 L') (prC m2.g (.pointer none) (.slice A2 vs.length c2) mr2 r' v2 L')) := jz (HX8.out.st2 (Blk.setAll _ HX8.out.b2 rfl) (setCells_below (Nat.le_refl _) _ _ _).1 hoth)
       have hSS9 : (fun W => Blk W g1 39 (prC m2.g (.pointer none) (.slice A2 vs.length c2) mr2 r' v2 L')) (w8.setCells (g1 + 1) 0 (prC m2.g (.pointer none) (.slice A2 vs.length c2) mr2 r' v2 L').toList) := HX9.out.b1
       refine jW [28] ?_
       refine jR 28 39 (.tmp 2) (.tmp 24) none (cs := (prC m2.g (.pointer none) (.slice A2 vs.length c2) mr2 r' v2 L').toList) (there_all HX8.out.b2 rfl) (hlenP _ _ _ _ _ _ _) (list_oneO (prC_one HX8.out.pb)) hSS9 ?_ jN
       simp only [j1, j2, j3, j4, j5]
       refine jW [29] ?_
       refine jS 29 (.assign (.tmp 51)) (some 3) (.bool true) (w8.setCells (g1 + 1) 0 (prC m2.g (.pointer none) (.slice A2 vs.length c2) mr2 r' v2 L').toList) hSS9 ?_ jN
       simp only [j1, j2, j3, j4, j5]
       refine wpAnyH_done (by kernel_rfl) ?_ _
       obtain ⟨wz, hwz⟩ : ∃ wz, wz = (w8.setCells (g1 + 1) 0 (prC m2.g (.pointer none) (.slice A2 vs.length c2) mr2 r' v2 L').toList) := ⟨_, rfl⟩
       rw [← hwz] at HX9 ⊢
       clear hwz hSS9 hoth
       go_wp2_with fail
       have hrz := HX9.out.b2.range
       exact bodyPost_ret (results_cell1 rfl _ rfl hrz Tryz.underlying39 rfl (hlenP _ _ _ _ _ _ _)) rfl ⟨m2, _, _, lo2, mr2, v2, _, by rw [HRV.out]; rfl, HM2.out, by rw [HRV.out, ← HDE.out]; exact HX9.out.ret⟩
      ·obtain ⟨wS, hwS⟩ : ∃ wS, wS = w6.drew := ⟨_, rfl⟩
       have hbS : Below w6.heap.size w6 wS := by rw [hwS]; exact (Below.refl _ _).drew
       have HXS := jz (HX6.out.keep hbS)
       have HSS := jz (HSV.out.below hbS)
       clear hbS
       have HCL2 : Hid (∀ W, Blk W g1 39 (prC m2.g (.pointer (some ⟨gq, 0, none⟩)) (.slice A2 vs.length c2) mr2 r' v2 L') → W.cell? ⟨g1, 2, none⟩ = some (.slice A2 vs.length c2)) := jz (fun W hB => (hB.cell 2).trans rfl)
       have HCL1 : Hid (∀ W, Blk W g1 39 (prC m2.g (.pointer (some ⟨gq, 0, none⟩)) (.slice A2 vs.length c2) mr2 r' v2 L') → W.cell? ⟨g1, 1, none⟩ = some (.pointer (some ⟨gq, 0, none⟩))) := jz (fun W hB => (hB.cell 1).trans rfl)
       have HCL12 : Hid (∀ W, Blk W g1 39 (prC m2.g (.pointer (some ⟨gq, 0, none⟩)) (.slice A2 vs.length c2) mr2 r' v2 L') → W.cell? ⟨g1, 12, none⟩ = some (.slice Ar L'.es.length cr)) := jz (fun W hB => by have h : W.cell? ⟨g1, 12, none⟩ = some v2 := (hB.cell 12).trans rfl; rw [h, HER.out])
       refine held_start 30 (fun W => Blk W g1 39 (prC m2.g (.pointer (some ⟨gq, 0, none⟩)) (.slice A2 vs.length c2) mr2 r' v2 L')) (by kernel_rfl) (by kernel_rfl) (by rw [← hwS]; exact HXS.out.b1) (fun hHeld => ?_)
       rw [← hwS] at hHeld ⊢
       clear hwS
       refine jL 0 39 (.tmp 1) (some 24) (cs := (prC m2.g (.pointer (some ⟨gq, 0, none⟩)) (.slice A2 vs.length c2) mr2 r' v2 L').toList) (fun _ hX => hX.range) Tryz.underlying39 rfl (hlenP _ _ _ _ _ _ _) hHeld ?_
       simp only [j1, j2, j3, j4, j5]
       refine jM 1 (.tmp 5) (some 25) (.iface ti ui) hHeld ?_
       simp only [j1, j2, j3, j4, j5]
       refine jM 3 (.tmp 4) (some 27) (.int .i64 c) hHeld ?_
       simp only [j1, j2, j3, j4, j5]
       refine jW [2] ?_
       refine jC 2 (.call { callee := .value (.func 22), args := #[.tmp 25], argTypes := #[53] }) (some 26) 22 (#[.iface ti ui]) ?_ jN
       refine (HC.out wS).mono ?_
       rintro e w7 ⟨rfl, hb7⟩
       have HX7 := jz (HXS.out.keep hb7)
       have HS7 := jz (HSS.out.below hb7)
       clear hb7
       refine ⟨_, rfl, HX7.out.b1, fun hHeld => ?_⟩
       simp only [j1, j2, j3, j4, j5]
       refine jT 4 (.binOp .eql 3 (.tmp 26) (.tmp 27) 3) (some 28) (.bool true) (hy := fun o ho wX hX => by have hk1 := HK1.out; unfold execOp; simp only [ho]; go_simp) hHeld ?_
       simp only [j1, j2, j3, j4, j5]
       refine jM 5 (.tmp 28) (some 29) (.bool true) hHeld ?_
       simp only [j1, j2, j3, j4, j5]
       refine jM 6 (.tmp 5) (some 30) (.iface ti ui) hHeld ?_
       simp only [j1, j2, j3, j4, j5]
       refine jT 7 (.binOp .eql 53 (.tmp 30) (.const .nilIface) 53) (some 31) (.bool false) hHeld ?_
       simp only [j1, j2, j3, j4, j5]
       refine jM 8 (.tmp 4) (some 32) (.int .i64 c) hHeld ?_
       simp only [j1, j2, j3, j4, j5]
       refine jT 9 (.binOp .eql 3 (.tmp 32) (.const (.int .i64 0)) 3) (some 33) (.bool false) (hy := fun o ho wX hX => by have hk2 := HK2.out; unfold execOp; simp only [ho]; go_simp) hHeld ?_
       simp only [j1, j2, j3, j4, j5]
       refine jT 10 (.binOp .eql 4 (.tmp 31) (.tmp 33) 4) (some 34) (.bool true) hHeld ?_
       simp only [j1, j2, j3, j4, j5]
       refine jT 11 (.pick (.tmp 29) (.tmp 34) (.const (.bool false))) (some 35) (.bool true) hHeld ?_
       simp only [j1, j2, j3, j4, j5]
       refine jM 12 (.tmp 35) (some 36) (.bool true) hHeld ?_
       simp only [j1, j2, j3, j4, j5]
       refine jT 13 (.fieldAddr 39 (.tmp 1) 2) (some 37) (.pointer (some ⟨g1, 2, none⟩)) hHeld ?_
       simp only [j1, j2, j3, j4, j5]
       refine jT 14 (.load 34 (.tmp 37)) (some 38) (.slice A2 vs.length c2) (hy := fun o ho wX hX => by have hcell := HCL2.out _ hX; unfold execOp; simp only [ho]; go_simp) hHeld ?_
       simp only [j1, j2, j3, j4, j5]
       refine jT 15 (.fieldAddr 39 (.tmp 1) 4) (some 39) (.pointer (some ⟨g1, 8, none⟩)) hHeld ?_
       simp only [j1, j2, j3, j4, j5]
       refine jT 16 (.fieldAddr 37 (.tmp 39) 4) (some 40) (.pointer (some ⟨g1, 12, none⟩)) hHeld ?_
       simp only [j1, j2, j3, j4, j5]
       refine jT 17 (.load 34 (.tmp 40)) (some 41) (.slice Ar L'.es.length cr) (hy := fun o ho wX hX => by have hcell := HCL12.out _ hX; unfold execOp; simp only [ho]; go_simp) hHeld ?_
       simp only [j1, j2, j3, j4, j5]
       refine jW [18] ?_
       refine jC 18 (.call { callee := .value (.func 16), args := #[.tmp 38, .tmp 41], argTypes := #[34, 34] }) (some 42) 16 (#[.slice A2 vs.length c2, .slice Ar L'.es.length cr]) ?_ jN
       refine (same_any (.slice A2 vs.length c2) (.slice Ar L'.es.length cr) vs L'.es w7 HS7.out HOK.out (by rw [← HER.out]; exact HX7.out.pb.rl.sn) HX7.out.pb.rl.ok hvl hes3).mono ?_
       rintro e w8 ⟨rfl, hb8⟩
       have HX8 := jz (HX7.out.keep hb8)
       clear hb8
       rw [HK3.out]
       refine ⟨_, rfl, HX8.out.b1, fun hHeld => ?_⟩
       simp only [j1, j2, j3, j4, j5]
       refine jT 19 (.pick (.tmp 36) (.tmp 42) (.const (.bool false))) (some 43) (.bool true) hHeld ?_
       simp only [j1, j2, j3, j4, j5]
       refine jM 20 (.tmp 43) (some 44) (.bool true) hHeld ?_
       simp only [j1, j2, j3, j4, j5]
       refine jT 21 (.fieldAddr 39 (.tmp 1) 1) (some 45) (.pointer (some ⟨g1, 1, none⟩)) hHeld ?_
       simp only [j1, j2, j3, j4, j5]
       refine jT 22 (.load 33 (.tmp 45)) (some 46) (.pointer (some ⟨gq, 0, none⟩)) (hy := fun o ho wX hX => by have hcell := HCL1.out _ hX; unfold execOp; simp only [ho]; go_simp) hHeld ?_
       simp only [j1, j2, j3, j4, j5]
       refine jT 23 (.binOp .eql 33 (.tmp 46) (.const (.pointer none)) 33) (some 47) (.bool false) hHeld ?_
       simp only [j1, j2, j3, j4, j5]
       refine jM 24 (.tmp 4) (some 48) (.int .i64 c) hHeld ?_
       simp only [j1, j2, j3, j4, j5]
       refine jT 25 (.binOp .neq 3 (.tmp 48) (.const (.int .i64 0)) 3) (some 49) (.bool true) (hy := fun o ho wX hX => by have hk2 := HK2n.out; unfold execOp; simp only [ho]; go_simp) hHeld ?_
       simp only [j1, j2, j3, j4, j5]
       refine jT 26 (.binOp .eql 4 (.tmp 47) (.tmp 49) 4) (some 50) (.bool false) hHeld ?_
       simp only [j1, j2, j3, j4, j5]
       refine jT 27 (.pick (.tmp 44) (.tmp 50) (.const (.bool false))) (some 51) (.bool false) hHeld ?_
       simp only [j1, j2, j3, j4, j5]
       have hoth : ∀ k, k ≠ g1 + 1 → (w8.setCells (g1 + 1) 0 (prC m2.g (.pointer (some ⟨gq, 0, none⟩)) (.slice A2 vs.length c2) mr2 r' v2 L').toList).heap[k]? = w8.heap[k]? := fun k hk => setCells_other hk _ _ _
       have HX9 : Hid (XO19 w0 w (w8.setCells (g1 + 1) 0 (prC m2.g (.pointer (some ⟨gq, 0, none⟩)) (.slice A2 vs.length c2) mr2 r' v2 L').toList) m lo mr r v glx m2 D.2.1 _ _ lo2 (D.2.2.map (·.1)) mr2 r' v2 L' g1 (g1 + 1) (prC m2.g (.pointer (some ⟨gq, 0, none⟩)) (.slice A2 vs.length c2) mr2 r' v2 L') (prC m2.g (.pointer (some ⟨gq, 0, none⟩)) (.slice A2 vs.length c2) mr2 r' v2 L')) := jz (HX8.out.st2 (Blk.setAll _ HX8.out.b2 rfl) (setCells_below (Nat.le_refl _) _ _ _).1 hoth)
       have hSS9 : (fun W => Blk W g1 39 (prC m2.g (.pointer (some ⟨gq, 0, none⟩)) (.slice A2 vs.length c2) mr2 r' v2 L')) (w8.setCells (g1 + 1) 0 (prC m2.g (.pointer (some ⟨gq, 0, none⟩)) (.slice A2 vs.length c2) mr2 r' v2 L').toList) := HX9.out.b1
       refine jW [28] ?_
       refine jR 28 39 (.tmp 2) (.tmp 24) none (cs := (prC m2.g (.pointer (some ⟨gq, 0, none⟩)) (.slice A2 vs.length c2) mr2 r' v2 L').toList) (there_all HX8.out.b2 rfl) (hlenP _ _ _ _ _ _ _) (list_oneO (prC_one HX8.out.pb)) hSS9 ?_ jN
       simp only [j1, j2, j3, j4, j5]
       refine jW [29] ?_
       refine jS 29 (.assign (.tmp 51)) (some 3) (.bool false) (w8.setCells (g1 + 1) 0 (prC m2.g (.pointer (some ⟨gq, 0, none⟩)) (.slice A2 vs.length c2) mr2 r' v2 L').toList) hSS9 ?_ jN
       simp only [j1, j2, j3, j4, j5]
       refine wpAnyH_done (by kernel_rfl) ?_ _
       obtain ⟨wz, hwz⟩ : ∃ wz, wz = (w8.setCells (g1 + 1) 0 (prC m2.g (.pointer (some ⟨gq, 0, none⟩)) (.slice A2 vs.length c2) mr2 r' v2 L').toList) := ⟨_, rfl⟩
       rw [← hwz] at HX9 ⊢
       clear hwz hSS9 hoth
       go_wp2_with fail
       have hrz := HX9.out.b2.range
       exact bodyPost_ret (results_cell1 rfl _ rfl hrz Tryz.underlying39 rfl (hlenP _ _ _ _ _ _ _)) rfl ⟨m2, _, _, lo2, mr2, v2, _, by rw [HRV.out]; rfl, HM2.out, by rw [HRV.out, ← HDE.out]; exact HX9.out.ret⟩
    | true =>
     obtain ⟨wS, hwS⟩ : ∃ wS, wS = w6.drew := ⟨_, rfl⟩
     have hbS : Below w6.heap.size w6 wS := by rw [hwS]; exact (Below.refl _ _).drew
     have HXS := jz (HX6.out.keep hbS)
     have HSS := jz (HSV.out.below hbS)
     clear hbS
     have HCL2 : Hid (∀ W, Blk W g1 39 (prC m2.g pl (.slice A2 vs.length c2) mr2 r' v2 L') → W.cell? ⟨g1, 2, none⟩ = some (.slice A2 vs.length c2)) := jz (fun W hB => (hB.cell 2).trans rfl)
     have HCL1 : Hid (∀ W, Blk W g1 39 (prC m2.g pl (.slice A2 vs.length c2) mr2 r' v2 L') → W.cell? ⟨g1, 1, none⟩ = some (pl)) := jz (fun W hB => (hB.cell 1).trans rfl)
     have HCL12 : Hid (∀ W, Blk W g1 39 (prC m2.g pl (.slice A2 vs.length c2) mr2 r' v2 L') → W.cell? ⟨g1, 12, none⟩ = some (.slice Ar L'.es.length cr)) := jz (fun W hB => by have h : W.cell? ⟨g1, 12, none⟩ = some v2 := (hB.cell 12).trans rfl; rw [h, HER.out])
     refine held_start 30 (fun W => Blk W g1 39 (prC m2.g pl (.slice A2 vs.length c2) mr2 r' v2 L')) (by kernel_rfl) (by kernel_rfl) (by rw [← hwS]; exact HXS.out.b1) (fun hHeld => ?_)
     rw [← hwS] at hHeld ⊢
     clear hwS
     refine jL 0 39 (.tmp 1) (some 24) (cs := (prC m2.g pl (.slice A2 vs.length c2) mr2 r' v2 L').toList) (fun _ hX => hX.range) Tryz.underlying39 rfl (hlenP _ _ _ _ _ _ _) hHeld ?_
     simp only [j1, j2, j3, j4, j5]
     refine jM 1 (.tmp 5) (some 25) (.iface ti ui) hHeld ?_
     simp only [j1, j2, j3, j4, j5]
     refine jM 3 (.tmp 4) (some 27) (.int .i64 c) hHeld ?_
     simp only [j1, j2, j3, j4, j5]
     refine jW [2] ?_
     refine jC 2 (.call { callee := .value (.func 22), args := #[.tmp 25], argTypes := #[53] }) (some 26) 22 (#[.iface ti ui]) ?_ jN
     refine (HC.out wS).mono ?_
     rintro e w7 ⟨rfl, hb7⟩
     have HX7 := jz (HXS.out.keep hb7)
     have HS7 := jz (HSS.out.below hb7)
     clear hb7
     refine ⟨_, rfl, HX7.out.b1, fun hHeld => ?_⟩
     simp only [j1, j2, j3, j4, j5]
     refine jT 4 (.binOp .eql 3 (.tmp 26) (.tmp 27) 3) (some 28) (.bool true) (hy := fun o ho wX hX => by have hk1 := HK1.out; unfold execOp; simp only [ho]; go_simp) hHeld ?_
     simp only [j1, j2, j3, j4, j5]
     refine jM 5 (.tmp 28) (some 29) (.bool true) hHeld ?_
     simp only [j1, j2, j3, j4, j5]
     refine jM 6 (.tmp 5) (some 30) (.iface ti ui) hHeld ?_
     simp only [j1, j2, j3, j4, j5]
     refine jT 7 (.binOp .eql 53 (.tmp 30) (.const .nilIface) 53) (some 31) (.bool false) hHeld ?_
     simp only [j1, j2, j3, j4, j5]
     refine jM 8 (.tmp 4) (some 32) (.int .i64 c) hHeld ?_
     simp only [j1, j2, j3, j4, j5]
     refine jT 9 (.binOp .eql 3 (.tmp 32) (.const (.int .i64 0)) 3) (some 33) (.bool true) (hy := fun o ho wX hX => by have hk2 := HK2.out; unfold execOp; simp only [ho]; go_simp) hHeld ?_
     simp only [j1, j2, j3, j4, j5]
     refine jT 10 (.binOp .eql 4 (.tmp 31) (.tmp 33) 4) (some 34) (.bool false) hHeld ?_
     simp only [j1, j2, j3, j4, j5]
     refine jT 11 (.pick (.tmp 29) (.tmp 34) (.const (.bool false))) (some 35) (.bool false) hHeld ?_
     simp only [j1, j2, j3, j4, j5]
     refine jM 12 (.tmp 35) (some 36) (.bool false) hHeld ?_
     simp only [j1, j2, j3, j4, j5]
     refine jK 13 (some 37) hHeld ?_
     simp only [j1, j2, j3, j4, j5]
     refine jK 14 (some 38) hHeld ?_
     simp only [j1, j2, j3, j4, j5]
     refine jK 15 (some 39) hHeld ?_
     simp only [j1, j2, j3, j4, j5]
     refine jK 16 (some 40) hHeld ?_
     simp only [j1, j2, j3, j4, j5]
     refine jK 17 (some 41) hHeld ?_
     simp only [j1, j2, j3, j4, j5]
     refine jK 18 (some 42) hHeld ?_
     simp only [j1, j2, j3, j4, j5]
     refine jT 19 (.pick (.tmp 36) (.tmp 42) (.const (.bool false))) (some 43) (.bool false) hHeld ?_
     simp only [j1, j2, j3, j4, j5]
     refine jM 20 (.tmp 43) (some 44) (.bool false) hHeld ?_
     simp only [j1, j2, j3, j4, j5]
     refine jK 21 (some 45) hHeld ?_
     simp only [j1, j2, j3, j4, j5]
     refine jK 22 (some 46) hHeld ?_
     simp only [j1, j2, j3, j4, j5]
     refine jK 23 (some 47) hHeld ?_
     simp only [j1, j2, j3, j4, j5]
     refine jK 24 (some 48) hHeld ?_
     simp only [j1, j2, j3, j4, j5]
     refine jK 25 (some 49) hHeld ?_
     simp only [j1, j2, j3, j4, j5]
     refine jK 26 (some 50) hHeld ?_
     simp only [j1, j2, j3, j4, j5]
     refine jT 27 (.pick (.tmp 44) (.tmp 50) (.const (.bool false))) (some 51) (.bool false) hHeld ?_
     simp only [j1, j2, j3, j4, j5]
     have hoth : ∀ k, k ≠ g1 + 1 → (w7.setCells (g1 + 1) 0 (prC m2.g pl (.slice A2 vs.length c2) mr2 r' v2 L').toList).heap[k]? = w7.heap[k]? := fun k hk => setCells_other hk _ _ _
     have HX9 : Hid (XO19 w0 w (w7.setCells (g1 + 1) 0 (prC m2.g pl (.slice A2 vs.length c2) mr2 r' v2 L').toList) m lo mr r v glx m2 D.2.1 _ _ lo2 (D.2.2.map (·.1)) mr2 r' v2 L' g1 (g1 + 1) (prC m2.g pl (.slice A2 vs.length c2) mr2 r' v2 L') (prC m2.g pl (.slice A2 vs.length c2) mr2 r' v2 L')) := jz (HX7.out.st2 (Blk.setAll _ HX7.out.b2 rfl) (setCells_below (Nat.le_refl _) _ _ _).1 hoth)
     have hSS9 : (fun W => Blk W g1 39 (prC m2.g pl (.slice A2 vs.length c2) mr2 r' v2 L')) (w7.setCells (g1 + 1) 0 (prC m2.g pl (.slice A2 vs.length c2) mr2 r' v2 L').toList) := HX9.out.b1
     refine jW [28] ?_
     refine jR 28 39 (.tmp 2) (.tmp 24) none (cs := (prC m2.g pl (.slice A2 vs.length c2) mr2 r' v2 L').toList) (there_all HX7.out.b2 rfl) (hlenP _ _ _ _ _ _ _) (list_oneO (prC_one HX7.out.pb)) hSS9 ?_ jN
     simp only [j1, j2, j3, j4, j5]
     refine jW [29] ?_
     refine jS 29 (.assign (.tmp 51)) (some 3) (.bool false) (w7.setCells (g1 + 1) 0 (prC m2.g pl (.slice A2 vs.length c2) mr2 r' v2 L').toList) hSS9 ?_ jN
     simp only [j1, j2, j3, j4, j5]
     refine wpAnyH_done (by kernel_rfl) ?_ _
     obtain ⟨wz, hwz⟩ : ∃ wz, wz = (w7.setCells (g1 + 1) 0 (prC m2.g pl (.slice A2 vs.length c2) mr2 r' v2 L').toList) := ⟨_, rfl⟩
     rw [← hwz] at HX9 ⊢
     clear hwz hSS9 hoth
     go_wp2_with fail
     have hrz := HX9.out.b2.range
     exact bodyPost_ret (results_cell1 rfl _ rfl hrz Tryz.underlying39 rfl (hlenP _ _ _ _ _ _ _)) rfl ⟨m2, _, _, lo2, mr2, v2, _, by rw [HRV.out]; rfl, HM2.out, by rw [HRV.out, ← HDE.out]; exact HX9.out.ret⟩
end Go.Proofs.YtillkpjflcgkeaaGreat
