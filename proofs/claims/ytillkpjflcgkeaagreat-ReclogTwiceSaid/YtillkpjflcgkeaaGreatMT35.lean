import Derived.Test.YtillkpjflcgkeaaGreatMT19
import Derived.Test.YtillkpjflcgkeaaGreatMT12
import Derived.Test.YtillkpjflcgkeaaGreatMT33
import Derived.Test.YtillkpjflcgkeaaGreatMT16
import Derived.Test.YtillkpjflcgkeaaGreatMT9
import Derived.Test.YtillkpjflcgkeaaGreatMT1
set_option linter.unusedSimpArgs false
set_option maxRecDepth 100000
namespace Go.Proofs.YtillkpjflcgkeaaGreat
open Go.RowKit
attribute [local irreducible] wpQuiet wpAnyH
def Bd (c : Nat) (d d' : DiskD) : Prop := d'.steps ≤ d'.room ∧ d'.room ≤ d.room + c ∧ d'.sec.length = d.sec.length
theorem Bd.mono {c c' : Nat} {d d' : DiskD} (h : Bd c d d') (hc : c ≤ c') : Bd c' d d' := ⟨h.1, by have := h.2.1; omega, h.2.2⟩
theorem Bd.trans {a b : Nat} {d d' d'' : DiskD} (h : Bd a d d') (k : Bd b d' d'') : Bd (a + b) d d'' := ⟨k.1, by have := h.2.1; have := k.2.1; omega, k.2.2.trans h.2.2⟩
theorem stepped_bd {d : DiskD} (h : d.steps ≤ d.room) : Bd 1 d (stepped d) := ⟨by show d.steps + 1 ≤ max d.room (d.steps + 1); omega, by show max d.room (d.steps + 1) ≤ d.room + 1; omega, rfl⟩
theorem addIf_bd {d : DiskD} (h : d.steps ≤ d.room) (a : Int) (s : List Int) : Bd 1 d (addIf d a s) := by
 unfold addIf
 split
 ·exact ⟨by show d.steps ≤ d.room + 1; omega, Nat.le_refl _, rfl⟩
 ·exact ⟨h, by omega, rfl⟩
theorem crashD_bd {d : DiskD} (h : d.steps ≤ d.room) (cl : List Int) : Bd 0 d (crashD d cl) := ⟨h, Nat.le_refl _, crashL_len _ _ _⟩
theorem writeD_bd {d : DiskD} (h : d.steps ≤ d.room) (a : Int) (s : List Int) : Bd 2 d (writeD d a s) := by
 have h1 := stepped_bd h
 have h2 := h1.trans (addIf_bd h1.1 a s)
 unfold writeD
 split
 ·exact ⟨h, by omega, rfl⟩
 ·split
  ·exact h2.trans (crashD_bd h2.1 _)
  ·split
   ·exact h1.mono (by omega)
   ·exact h2
theorem syncS_bd {d : DiskD} (h : d.steps ≤ d.room) : Bd 1 d (syncS d) := by
 have h1 := stepped_bd h
 unfold syncS
 split
 ·exact ⟨h, by omega, rfl⟩
 ·split
  ·exact h1.trans (crashD_bd h1.1 _)
  ·split
   ·exact h1
   ·exact ⟨h1.1, h1.2.1, syncN_len _ _ _⟩
theorem wsD_bd {d : DiskD} (h : d.steps ≤ d.room) (a : Int) (s : List Int) : Bd 3 d (wsD d a s) := by
 have h1 := writeD_bd h a s
 unfold wsD
 split
 ·exact h1.mono (by omega)
 ·exact h1.trans (syncS_bd h1.1)
theorem fillW_bd : ∀ (L : List (List Int)) (d : DiskD) (a : Int), d.steps ≤ d.room → Bd (2 * L.length + 1) d (fillW d a L).2
 | [], d, a, h => (syncS_bd h).mono (by simp)
 | s :: L, d, a, h => by
  have h1 := writeD_bd h a s
  unfold fillW
  split
  ·exact h1.mono (by simp; omega)
  ·exact (h1.trans (fillW_bd L _ _ h1.1)).mono (by simp; omega)
theorem fillR_bd {d : DiskD} (h : d.steps ≤ d.room) (f z : Int) (g : Nat) (l : List Ent2) : Bd (2 * l.length + 1) d (fillR d f z g l).2 := by
 unfold fillR
 split
 ·exact ⟨h, by simp, rfl⟩
 ·split
  ·exact (fillW_bd _ _ _ h).mono (by simp)
  ·exact ⟨h, by simp, rfl⟩
theorem writeA_none {d : DiskD} {a : Int} (h : writeA d a = none) (s : List Int) : d.down = false ∧ hasB d a = true ∧ writeD d a s = addD (stepped d) a s := by
 unfold writeA at h
 cases hd : d.down with
 | true => rw [hd] at h; cases h
 | false =>
  rw [hd] at h
  simp only [Bool.false_eq_true, if_false] at h
  split at h
  ·cases h
  ·rename_i h2
   split at h
   ·cases h
   ·rename_i h1
    split at h
    ·rename_i hb
     refine ⟨rfl, hb, ?_⟩
     unfold writeD
     rw [hd, if_neg h2, if_neg h1]
     unfold addIf
     rw [show hasB (stepped d) a = hasB d a from rfl, hb]
     rfl
    ·cases h
theorem syncA_none {d : DiskD} (h : syncA d = none) : d.down = false ∧ syncS d = syncD (stepped d) := by
 unfold syncA at h
 cases hd : d.down with
 | true => rw [hd] at h; cases h
 | false =>
  rw [hd] at h
  simp only [Bool.false_eq_true, if_false] at h
  split at h
  ·cases h
  ·rename_i h2
   split at h
   ·cases h
   ·rename_i h1
    refine ⟨rfl, ?_⟩
    unfold syncS
    rw [hd, if_neg h2, if_neg h1]
    rfl
theorem fillW_none : ∀ (L : List (List Int)) (d d' : DiskD) (a : Int), fillW d a L = (none, d') → d'.down = false ∧ d'.opn = [] ∧ d'.sec = setAll d.sec (d.opn ++ wrs a L)
 | [], d, d', a, h => by
  unfold fillW at h
  injection h with h1 h2
  obtain ⟨hd, hs⟩ := syncA_none h1
  rw [← h2, hs, wrs, List.append_nil]
  exact ⟨hd, rfl, sync_all _ _⟩
 | s :: L, d, d', a, h => by
  unfold fillW at h
  split at h
  ·cases h
  ·rename_i hw
   obtain ⟨hd, _, hW⟩ := writeA_none hw s
   obtain ⟨h1, h2, h3⟩ := fillW_none L _ d' _ h
   refine ⟨h1, h2, ?_⟩
   rw [h3, hW, wrs]
   show setAll d.sec (d.opn ++ [(a, s)] ++ wrs (a + 1) L) = _
   rw [List.append_assoc]
   rfl
theorem wsA_none {d : DiskD} {a : Int} {s : List Int} (h : wsA d a s = none) : (wsD d a s).down = false ∧ (wsD d a s).opn = [] ∧ (wsD d a s).sec = setAll d.sec (d.opn ++ [(a, s)]) := by
 unfold wsA at h
 unfold wsD
 split at h
 ·cases h
 ·rename_i hw
  obtain ⟨hd, _, hW⟩ := writeA_none hw s
  obtain ⟨h1, h2⟩ := syncA_none h
  show (syncS (writeD d a s)).down = _ ∧ (syncS (writeD d a s)).opn = _ ∧ (syncS (writeD d a s)).sec = _
  rw [h2, hW]
  exact ⟨hd, rfl, sync_all _ _⟩
def rewW (fa : Ans) (fd : DiskD) (L : LogD) (wa : Ans) (wd : DiskD) (so g n : Nat) : Ans × DiskD × LogD := match fa with
 | some x => (some x, fd, noteL L x.1)
 | none => match wa with
  | some x => (some x, wd, noteL L x.1)
  | none => (none, wd, { L with side := so, gen := g, cnt := n })
def rewS (d : DiskD) (h : Nat) (L : LogD) (qs : List Ent2) (g : Nat) : Ans × DiskD × LogD :=
 rewW (fillR d (sFrom h (1 - L.side)) h g qs).1 (fillR d (sFrom h (1 - L.side)) h g qs).2 L (wsA (fillR d (sFrom h (1 - L.side)) h g qs).2 (sFrom h (1 - L.side)) (rec g toll)) (wsD (fillR d (sFrom h (1 - L.side)) h g qs).2 (sFrom h (1 - L.side)) (rec g toll)) (1 - L.side) g qs.length
def rewR (d : DiskD) (h : Nat) (L : LogD) (qs : List Ent2) : Ans × DiskD × LogD := if L.brk then (some (11, none), d, L) else if max L.last L.gen = 4294967295 then (some (13, none), d, L) else rewS d h L qs (max L.last L.gen + 1)
set_option maxHeartbeats 8000000 in
theorem log_rewrite (qs : List Ent2) (A : Option Addr) (cap : Nat) (w : World) (m : DiskM) (d : DiskD) (gl h : Nat) (L : LogD) (k : LK w m d gl h L) (hs : Sn w 33 (.slice A qs.length cap) qs.length (qs.flatMap entP)) (hok : ∀ q ∈ qs, EntOk q) (hln : qs.length ≤ 10000) (hr : d.room + 30000 ≤ 100000) :
  Calls Tryz.prog 18 #[.pointer (some ⟨gl, 0, none⟩), .slice A qs.length cap] w fun e w' => e = .returned (valE (rewR d h L qs).1) ∧ ∃ m', LK w' m' (rewR d h L qs).2.1 gl h (rewR d h L qs).2.2 ∧ LT gl w m w' m' := by
 have hh := LogOk.h_le k
 have HK := Lib.hid k
 have HS := Lib.hid hs
 have HOK := Lib.hid hok
 have HB : Hid (Blk w gl 88 (logC m.g h L)) := Lib.hid k.blk
 obtain ⟨c0, c5, c6, c7, c8, c9⟩ := k.cells
 have hgl := k.blk.lt
 clear hs hok
 cases hb : L.brk with
 | true =>
  have HV : Hid (rewR d h L qs = (some (11, none), d, L)) := jz (by unfold rewR; rw [if_pos hb])
  rw [hb] at c9
  clear hb k
  go_enter Tryz.func18, Tryz.ntmps18
  go_wp2_with fail
  go_ret
  exact ⟨by rw [HV.out]; rfl, m, by rw [HV.out]; exact HK.out, LT.of_below (Below.refl _ _)⟩
 | false =>
  rw [hb] at c9
  obtain ⟨gm, hgm⟩ : ∃ gm, gm = max L.last L.gen := ⟨_, rfl⟩
  have hgi : max (L.last : Int) L.gen = gm := by omega
  have HGI := Lib.hid hgi
  have HM4 : Hid (gm < 4294967296) := jz (by have h1 := k.ok.last; have h2 := k.ok.gen; omega)
  have HR1 : Hid (rewR d h L qs = if gm = 4294967295 then (some (13, none), d, L) else rewS d h L qs (gm + 1)) := jz (by unfold rewR; rw [hb, hgm]; rfl)
  have hsd := k.ok.side
  have HC : Hid (∀ W, Blk W gl 88 (logC m.g h L) → W.cell? ⟨gl, 6, none⟩ = some (.int .u32 L.last) ∧ W.cell? ⟨gl, 7, none⟩ = some (.int .u32 L.gen)) := jz (fun W hk => ⟨(hk.cell 6).trans rfl, (hk.cell 7).trans rfl⟩)
  clear hb hgm k hgi
  go_enter Tryz.func18, Tryz.ntmps18
  go_upto_region 5 with fail
  obtain ⟨wS, hwS⟩ : ∃ wS, wS = w.drew := ⟨_, rfl⟩
  have HDS : Hid (Below w.heap.size w wS) := jz (by rw [hwS]; exact (Below.refl _ _).drew)
  refine kZ (n := 10) (fun W => Blk W gl 88 (logC m.g h L)) (by rw [← hwS]; exact HB.out.keep HDS.out) (h := fun hH => ?_)
  rw [← hwS] at hH ⊢
  clear hwS
  refine kM 0 (some 17) (.pointer (some ⟨gl, 0, none⟩)) (h := ?_)
  simp only [p1, p2, p3, p4, p5]
  refine kT 1 (some 18) (.pointer (some ⟨gl, 0, none⟩)) (h := ?_)
  simp only [p1, p2, p3, p4, p5]
  refine kT 2 (some 19) (.pointer (some ⟨gl, 6, none⟩)) (h := ?_)
  simp only [p1, p2, p3, p4, p5]
  refine kC 3 (some 20) (v := .int .u32 L.last) (fun _ hX => (HC.out _ hX).1) (h := ?_)
  simp only [p1, p2, p3, p4, p5]
  refine kM 4 (some 21) (.pointer (some ⟨gl, 0, none⟩)) (h := ?_)
  simp only [p1, p2, p3, p4, p5]
  refine kT 5 (some 22) (.pointer (some ⟨gl, 0, none⟩)) (h := ?_)
  simp only [p1, p2, p3, p4, p5]
  refine kT 6 (some 23) (.pointer (some ⟨gl, 7, none⟩)) (h := ?_)
  simp only [p1, p2, p3, p4, p5]
  refine kC 7 (some 24) (v := .int .u32 L.gen) (fun _ hX => (HC.out _ hX).2) (h := ?_)
  simp only [p1, p2, p3, p4, p5]
  refine kT 8 (some 25) (.int .u32 gm) (hy := fun W hW => by unfold execOp; rw [← HGI.out]; go_simp) (h := ?_)
  simp only [p1, p2, p3, p4, p5]
  refine kT 9 (some 5) (.int .u32 gm) (h := ?_)
  simp only [p1, p2, p3, p4, p5]
  refine kE (h := ?_)
  obtain ⟨so, hso⟩ : ∃ so, so = 1 - L.side := ⟨_, rfl⟩
  have hsi : (1 : Int) - L.side = so := by omega
  have HSI := Lib.hid hsi
  have hso2 : so < 2 := by omega
  have hsdi : (L.side : Int) < 2 := by omega
  have hsdi0 : (0 : Int) ≤ L.side := by omega
  have HWS : Hid (Below w.heap.size w wS) := HDS
  have HKS : Hid (LK wS m d gl h L) := jz (HK.out.keep HDS.out)
  have HST0 := jz (HS.out.below HDS.out)
  have d5 : wS.cell? ⟨gl, 5, none⟩ = some (.int .i64 L.side) := (hH.cell 5).trans rfl
  have HBS : Hid (Blk wS gl 88 (logC m.g h L)) := Lib.hid hH
  have hgS : gl < wS.heap.size := hH.lt
  clear c0 c5 c6 c7 c8 c9 hsi hH
  rcases Nat.lt_or_ge gm 4294967295 with hmx | hmx
  ·have t9 : ((gm : Int) == 4294967295) = false := by rw [beq_eq_false_iff_ne]; omega
   obtain ⟨gn, hgn⟩ : ∃ gn, gn = gm + 1 := ⟨_, rfl⟩
   have HGN : Hid ((gm : Int) + 1 = gn) := jz (by omega)
   have HG4 : Hid (gn < 4294967296) := jz (by omega)
   have HM5 : Hid ((gm : Int) < 4294967295) := jz (by omega)
   have HV : Hid (rewR d h L qs = rewS d h L qs gn) := jz (by rw [HR1.out, if_neg (by omega), hgn])
   clear hmx hgn
   go_upto_region 8 with fail
   have hgm5 := HM5.out
   go_upto_region 10 with fail
   rw [HGN.out, HSI.out]
   obtain ⟨sf, hsf⟩ : ∃ sf, sf = sFrom h so := ⟨_, rfl⟩
   have HSF : Hid ((sf : Int) ≤ 100000 ∧ 0 ≤ (sf : Int)) := jz (by rw [hsf]; exact ⟨(ofs_lt hh).2, (ofs_lt (h := h) (s := so) hh).1⟩)
   have HSL : Hid (∀ W, Blk W gl 88 (logC m.g h L) → W.rangeAt gl (1 + so * 2) [.int .i64 sf, .int .i64 h]) := jz (fun W hk => by rw [hsf]; exact blk_slot hk so hso2)
   have hso0 : (0 : Int) ≤ so := by omega
   have hso1 : (so : Int) < 2 := by omega
   obtain ⟨fa, hfa⟩ : ∃ fa, fa = (fillR d sf h gn qs).1 := ⟨_, rfl⟩
   obtain ⟨fd, hfd⟩ : ∃ fd, fd = (fillR d sf h gn qs).2 := ⟨_, rfl⟩
   have HW2 : Hid (rewR d h L qs = rewW fa fd L (wsA fd sf (rec gn toll)) (wsD fd sf (rec gn toll)) so gn qs.length) := jz (by rw [HV.out, hfa, hfd, hsf, hso]; rfl)
   have HFD : Hid (Bd (2 * qs.length + 1) d fd) := jz (by rw [hfd]; exact fillR_bd HK.out.dk.ok.st _ _ _ _)
   have HH2 : Hid (h ≤ 2048) := jz (by have h1 := HK.out.ok.half; have h2 := HK.out.dk.ok.few; omega)
   have HAP := Lib.hid HK.out.ap
   have HFC := jz (fun W (hk : DK W m d) (hs : Sn W 33 (.slice A qs.length cap) qs.length (qs.flatMap entP)) => slot_fill sf h gn qs A cap W m d hk hs HOK.out ⟨HSF.out.2, HSF.out.1⟩ ⟨⟨by omega, by omega⟩, by have := HH2.out; omega⟩ HG4.out (by omega) (by omega))
   rw [← hfa, ← hfd] at HFC
   clear hfa hfd hsf hso hgm5 d5 t9
   obtain ⟨wT, hwT⟩ : ∃ wT, wT = wS.drew := ⟨_, rfl⟩
   have HDT : Hid (Below wS.heap.size wS wT) := jz (by rw [hwT]; exact (Below.refl _ _).drew)
   have HKT := jz (HKS.out.keep HDT.out)
   have HBT : Hid (Blk wT gl 88 (logC m.g h L)) := Lib.hid HKT.out.blk
   have HST := jz (HST0.out.below HDT.out)
   refine kZ (n := 14) (fun W => Blk W gl 88 (logC m.g h L)) (by rw [← hwT]; exact HBT.out) (h := fun hH => ?_)
   rw [← hwT] at hH ⊢
   clear hwT
   refine kM 0 (some 36) (.pointer (some ⟨gl, 0, none⟩)) (h := ?_)
   simp only [p1, p2, p3, p4, p5]
   refine kT 1 (some 37) (.pointer (some ⟨gl, 0, none⟩)) (h := ?_)
   simp only [p1, p2, p3, p4, p5]
   refine kT 2 (some 38) (.pointer (some ⟨gl, 0, none⟩)) (h := ?_)
   simp only [p1, p2, p3, p4, p5]
   refine kC 3 (some 39) (v := .pointer (some ⟨m.g, 0, none⟩)) (fun _ hX => (hX.cell 0).trans rfl) (h := ?_)
   simp only [p1, p2, p3, p4, p5]
   refine kM 4 (some 40) (.pointer (some ⟨gl, 0, none⟩)) (h := ?_)
   simp only [p1, p2, p3, p4, p5]
   refine kM 5 (some 41) (.int .i64 so) (h := ?_)
   simp only [p1, p2, p3, p4, p5]
   refine kT 6 (some 42) (.pointer (some ⟨gl, 0, none⟩)) (h := ?_)
   simp only [p1, p2, p3, p4, p5]
   refine kT 7 (some 43) (.pointer (some ⟨gl, 1, none⟩)) (h := ?_)
   simp only [p1, p2, p3, p4, p5]
   refine kT 8 (some 44) (.pointer (some ⟨gl, 1 + so * 2, none⟩)) (h := ?_)
   simp only [p1, p2, p3, p4, p5]
   refine kL 9 (some 45) (cs := [.int .i64 sf, .int .i64 h]) (fun _ hX => HSL.out _ hX) (rfl) (h := ?_)
   simp only [p1, p2, p3, p4, p5]
   refine kM 10 (some 46) (.int .u32 gn) (h := ?_)
   simp only [p1, p2, p3, p4, p5]
   refine kM 11 (some 47) (.slice A qs.length cap) (h := ?_)
   simp only [p1, p2, p3, p4, p5]
   refine kF 12 (some 48) ((HFC.out wT HKT.out.dk HST.out).mono ?_)
   rintro e w5 ⟨rfl, m5, hk5, ht5⟩
   refine ⟨_, rfl, (ht5.off hH.lt HAP.out.1).trans hH, fun hH5 => ?_⟩
   simp only [p1, p2, p3, p4, p5]
   refine kT 13 (some 7) (valE fa) (h := ?_)
   simp only [p1, p2, p3, p4, p5]
   refine kE (h := ?_)
   have HKX : Hid (LK w5 m5 fd gl h L) := jz (HKT.out.disk hk5 ht5 HFD.out.2.2)
   have HTX : Hid (LT gl w m w5 m5) := jz ((LT.of_below (bstep HWS.out HDT.out)).trans (LT.of_dt ht5))
   have HMG : Hid (m5.g = m.g) := Lib.hid ht5.g
   clear hk5 ht5 hH hH5
   cases fa with
   | some x =>
    obtain ⟨t, u, hv⟩ := valE_form x
    have HN := jz (log_note (some x) w5 m5 fd gl h L HKX.out)
    have HVE := Lib.hid hv
    rw [hv] at HN ⊢
    have hne := neq_nil t u
    clear hv
    go_wp2_with fail
    refine HN.out.mono ?_
    rintro e w6 ⟨rfl, hk6, ht6⟩
    have HK6 := Lib.hid hk6
    have HT6 := jz (HTX.out.trans ht6)
    clear hk6 ht6
    go_wp2_with fail
    go_ret
    exact ⟨by rw [HW2.out]; show _ = Ending.returned (valE (some x)); rw [HVE.out]; rfl, m5, by rw [HW2.out]; exact HK6.out, HT6.out⟩
   | none =>
    have hv : valE none = .nilIface := rfl
    have hnn := eq_nilL
    rw [hv]
    clear hv
    have hg5 : gl < w5.heap.size := HKX.out.blk.lt
    go_upto_region 13 with fail
    obtain ⟨wa, hwa⟩ : ∃ wa, wa = wsA fd sf (rec gn toll) := ⟨_, rfl⟩
    obtain ⟨wd, hwd⟩ : ∃ wd, wd = wsD fd sf (rec gn toll) := ⟨_, rfl⟩
    have HW3 : Hid (rewR d h L qs = rewW none fd L wa wd so gn qs.length) := jz (by rw [HW2.out, hwa, hwd])
    have HWL : Hid (wd.sec.length = fd.sec.length) := jz (by rw [hwd]; exact wsD_len _ _ _)
    have HCC := jz (fun W (hk : DK W m5 fd) => slot_commit sf h gn W m5 fd hk ⟨by have := HSF.out.2; omega, by have := HSF.out.1; omega⟩ HG4.out (by have := HFD.out.2.1; omega))
    rw [← hwa, ← hwd] at HCC
    have HBX : Hid (Blk w5 gl 88 (logC m5.g h L)) := Lib.hid HKX.out.blk
    have HSM : Hid (∀ W, Blk W gl 88 (logC m5.g h L) → W.rangeAt gl (1 + so * 2) [.int .i64 sf, .int .i64 h]) := jz (fun W hk => HSL.out W (by rw [← HMG.out]; exact hk))
    have HAX := Lib.hid HKX.out.ap
    clear hwa hwd
    obtain ⟨wU, hwU⟩ : ∃ wU, wU = w5.drew := ⟨_, rfl⟩
    have HDU : Hid (Below w5.heap.size w5 wU) := jz (by rw [hwU]; exact (Below.refl _ _).drew)
    have HKU := jz (HKX.out.keep HDU.out)
    have HBU : Hid (Blk wU gl 88 (logC m5.g h L)) := Lib.hid HKU.out.blk
    refine kZ (n := 13) (fun W => Blk W gl 88 (logC m5.g h L)) (by rw [← hwU]; exact HBU.out) (h := fun hH => ?_)
    rw [← hwU] at hH ⊢
    clear hwU
    refine kM 0 (some 54) (.pointer (some ⟨gl, 0, none⟩)) (h := ?_)
    simp only [p1, p2, p3, p4, p5]
    refine kT 1 (some 55) (.pointer (some ⟨gl, 0, none⟩)) (h := ?_)
    simp only [p1, p2, p3, p4, p5]
    refine kT 2 (some 56) (.pointer (some ⟨gl, 0, none⟩)) (h := ?_)
    simp only [p1, p2, p3, p4, p5]
    refine kC 3 (some 57) (v := .pointer (some ⟨m5.g, 0, none⟩)) (fun _ hX => (hX.cell 0).trans rfl) (h := ?_)
    simp only [p1, p2, p3, p4, p5]
    refine kM 4 (some 58) (.pointer (some ⟨gl, 0, none⟩)) (h := ?_)
    simp only [p1, p2, p3, p4, p5]
    refine kM 5 (some 59) (.int .i64 so) (h := ?_)
    simp only [p1, p2, p3, p4, p5]
    refine kT 6 (some 60) (.pointer (some ⟨gl, 0, none⟩)) (h := ?_)
    simp only [p1, p2, p3, p4, p5]
    refine kT 7 (some 61) (.pointer (some ⟨gl, 1, none⟩)) (h := ?_)
    simp only [p1, p2, p3, p4, p5]
    refine kT 8 (some 62) (.pointer (some ⟨gl, 1 + so * 2, none⟩)) (h := ?_)
    simp only [p1, p2, p3, p4, p5]
    refine kL 9 (some 63) (cs := [.int .i64 sf, .int .i64 h]) (fun _ hX => HSM.out _ hX) (rfl) (h := ?_)
    simp only [p1, p2, p3, p4, p5]
    refine kM 10 (some 64) (.int .u32 gn) (h := ?_)
    simp only [p1, p2, p3, p4, p5]
    refine kF 11 (some 65) ((HCC.out wU HKU.out.dk).mono ?_)
    rintro e w9 ⟨rfl, m9, hk9, ht9⟩
    refine ⟨_, rfl, (ht9.off hH.lt HAX.out.1).trans hH, fun hH9 => ?_⟩
    simp only [p1, p2, p3, p4, p5]
    refine kT 12 (some 8) (valE wa) (h := ?_)
    simp only [p1, p2, p3, p4, p5]
    refine kE (h := ?_)
    have HKY : Hid (LK w9 m9 wd gl h L) := jz (HKU.out.disk hk9 ht9 HWL.out)
    have HTY : Hid (LT gl w m w9 m9) := jz ((HTX.out.trans (LT.of_below HDU.out)).trans (LT.of_dt ht9))
    clear hk9 ht9 hH hH9
    cases wa with
    | some x =>
     obtain ⟨t, u, hv⟩ := valE_form x
     have HN := jz (log_note (some x) w9 m9 wd gl h L HKY.out)
     have HVE := Lib.hid hv
     rw [hv] at HN ⊢
     have hne := neq_nil t u
     clear hv
     go_wp2_with fail
     refine HN.out.mono ?_
     rintro e w6 ⟨rfl, hk6, ht6⟩
     have HK6 := Lib.hid hk6
     have HT6 := jz (HTY.out.trans ht6)
     clear hk6 ht6
     go_wp2_with fail
     go_ret
     exact ⟨by rw [HW3.out]; show _ = Ending.returned (valE (some x)); rw [HVE.out]; rfl, m9, by rw [HW3.out]; exact HK6.out, HT6.out⟩
    | none =>
     obtain ⟨c0, c5, c6, c7, c8, c9⟩ := HKY.out.cells
     have f5 := HKY.out.blk.frozen 5
     have f7 := HKY.out.blk.frozen 7
     have f8 := HKY.out.blk.frozen 8
     have hg9 : gl < w9.heap.size := HKY.out.blk.lt
     have hv : valE none = .nilIface := rfl
     rw [hv]
     clear hv
     go_wp2_with fail
     go_ret
     have HO := HKY.out.ok
     refine ⟨by rw [HW3.out]; rfl, m9, ?_, ((HTY.out.set 5 _).set 7 _).set 8 _⟩
     rw [HW3.out]
     exact ((HKY.out.set (L' := { L with side := so }) 5 _ rfl ⟨hso2, HO.last, HO.gen, HO.cnt, HO.half⟩).set (L' := { L with side := so, gen := gn }) 7 _ rfl ⟨hso2, HO.last, HG4.out, HO.cnt, HO.half⟩).set 8 _ rfl ⟨hso2, HO.last, HG4.out, hln, HO.half⟩
  ·obtain rfl : gm = 4294967295 := by have := HM4.out; omega
   have HV : Hid (rewR d h L qs = (some (13, none), d, L)) := jz (by rw [HR1.out, if_pos rfl])
   clear HR1 HGI
   go_wp2_with fail
   go_ret
   exact ⟨by rw [HV.out]; rfl, m, by rw [HV.out]; exact HKS.out, LT.of_below HWS.out⟩
theorem log_rewrite_nil (v : Value) (w : World) : Calls Tryz.prog 18 #[.pointer none, v] w fun e w' => e = .returned (valE (some (12, none))) ∧ w' = w := by
 go_enter Tryz.func18, Tryz.ntmps18
 go_wp2_with fail
 go_ret
 exact ⟨rfl, rfl⟩
theorem log_append_nil (q : Ent2) (w : World) (hq : EntOk q) : Calls Tryz.prog 19 #[.pointer none, .agg (entP q).toArray] w fun e w' => e = .returned (valE (some (12, none))) ∧ Below w.heap.size w w' := by
 have hql := entP_length q hq
 obtain ⟨w1, hw1⟩ : ∃ w1, w1 = w.alloc (.cells (entP q).toArray 43) := ⟨_, rfl⟩
 have HW1 : Hid (Below w.heap.size w w1) := jz (by rw [hw1]; exact bel1 _ _)
 go_enter Tryz.func19, Tryz.ntmps19
 go_upto_region 1 with fail
 rw [← hw1]
 clear hw1
 go_wp2_with fail
 go_ret
 exact ⟨rfl, HW1.out⟩
structure Op19 where
 kind : Int
 pos : Int
 gen : Nat
 ent : Ent2
 more : List Ent2
 cuts : List Int
 mv : Value
 cv : Value
def opC19 (o : Op19) : List Value := [.int .i64 o.kind, .int .i64 o.pos, .int .u32 o.gen] ++ (entP o.ent ++ [o.mv, o.cv])
structure Op19Ok (w : World) (o : Op19) : Prop where
 kind : isI64 o.kind
 pos : isI64 o.pos
 gen : o.gen < 4294967296
 ent : EntOk o.ent
 more : Sn w 33 o.mv o.more.length (o.more.flatMap entP)
 mok : ∀ q ∈ o.more, EntOk q
 cuts : Sn w 1 o.cv o.cuts.length (i64s o.cuts)
 cok : ∀ c ∈ o.cuts, isI64 c
def Few19 (o : Op19) : Prop := o.cuts.length ≤ 20 ∧ o.more.length ≤ 20 ∧ -1048576 ≤ o.pos ∧ o.pos ≤ 1048576
theorem Op19Ok.keep {w w' : World} {o : Op19} (h : Op19Ok w o) (hb : Below w.heap.size w w') : Op19Ok w' o := ⟨h.kind, h.pos, h.gen, h.ent, h.more.below hb, h.mok, h.cuts.below hb, h.cok⟩
theorem opC19_length {w : World} (o : Op19) (h : Op19Ok w o) : (opC19 o).length = 38 := by
 unfold opC19
 have := entP_length o.ent h.ent
 simp [this]
theorem opI19 (o : Op19) (h : (opC19 o).length = 38) : (Tryz.prog.info? 46).map (·.size) = some (opC19 o).length := by rw [h]; kernel_rfl
theorem Sn.slc9 {w : World} {s n : Nat} {v : Value} {xs : List Value} (h : Sn w s v n xs) : ∃ A cap, v = .slice A n cap := by
 obtain ⟨A, cap, e, _⟩ := h
 exact ⟨A, cap, e⟩
theorem code19 (o : Ans) (w : World) (h : isI64 (codeA o)) : Calls Tryz.prog 22 #[valE o] w fun e w' => e = .returned (.int .i64 (codeA o)) ∧ Below w.heap.size w w' := by
 obtain ⟨v, hv⟩ : ∃ v, v = valE o := ⟨_, rfl⟩
 have HC := jz (code_val o w)
 rw [← hv] at HC ⊢
 obtain ⟨c, hc⟩ : ∃ c, c = codeA o := ⟨_, rfl⟩
 rw [← hc] at HC h ⊢
 have h1 : -9223372036854775808 ≤ c := h.1
 have h2 : c ≤ 9223372036854775807 := h.2
 clear hv hc h
 go_enter Tryz.func22, Tryz.ntmps22
 go_wp2_with (go_at_call 46; refine HC.out.mono ?_; rintro e w1 ⟨rfl, hb⟩; have HB := Lib.hid hb; clear hb)
 go_ret
 exact ⟨rfl, HB.out⟩
theorem op_cells19 {w : World} {g : Nat} {o : Op19} (hq : EntOk o.ent) (h : Blk w g 46 (opC19 o).toArray) : w.cell? ⟨g, 0, none⟩ = some (.int .i64 o.kind) ∧ w.cell? ⟨g, 1, none⟩ = some (.int .i64 o.pos) ∧ w.cell? ⟨g, 2, none⟩ = some (.int .u32 o.gen) ∧ w.rangeAt g 3 (entP o.ent) ∧ w.cell? ⟨g, 36, none⟩ = some o.mv ∧ w.cell? ⟨g, 37, none⟩ = some o.cv := by
 have hr := h.range
 rw [List.toList_toArray] at hr
 have hl := entP_length o.ent hq
 have c : ∀ i u, (opC19 o)[i]? = some u → w.cell? ⟨g, i, none⟩ = some u := fun i u hi => by have := hr i u hi; rw [Nat.zero_add] at this; exact this
 refine ⟨c 0 _ rfl, c 1 _ rfl, c 2 _ rfl, fun i u hi => ?_, c 36 _ ?_, c 37 _ ?_⟩
 ·refine c (3 + i) u ?_
  unfold opC19
  have hlt := (List.getElem?_eq_some_iff.1 hi).1
  rw [List.getElem?_append_right (by simp), List.getElem?_append_left (by simp; omega)]
  simpa using hi
 all_goals
  unfold opC19
  rw [List.getElem?_append_right (by simp), List.getElem?_append_right (by simp; omega)]
  simp [hl]
theorem op_at19 {w : World} {A : Option Addr} {cap : Nat} {l : List Op19} (h : Sn w 38 (.slice A l.length cap) l.length (l.flatMap opC19)) (hok : ∀ o ∈ l, (opC19 o).length = 38) (k : Nat) (hk : k < l.length) :
  ∃ b off, A = some ⟨b, off, none⟩ ∧ w.rangeAt b (off + k * 38) (opC19 l[k]) := by
 obtain ⟨A', cap', hv, _, _, hx⟩ := h
 injection hv with hv _ _
 obtain ⟨b, off, he, hc⟩ := hx (by omega)
 refine ⟨b, off, hv.trans he, fun i u hi => ?_⟩
 have hi38 : i < 38 := by have := (List.getElem?_eq_some_iff.1 hi).1; rw [hok _ (List.getElem_mem hk)] at this; exact this
 have hp := flatMap_pieceM opC19 38 l hok k hk
 have : (l.flatMap opC19)[k * 38 + i]? = some u := by
  rw [← hi, ← hp, List.getElem?_take_of_lt hi38, List.getElem?_drop]
 have := hc (k * 38 + i) u this
 rw [show off + k * 38 + i = off + (k * 38 + i) by omega]
 exact this
set_option maxHeartbeats 4000000 in
theorem few19 (A : Option Addr) (cap : Nat) (l : List Op19) (w : World) (hs : Sn w 38 (.slice A l.length cap) l.length (l.flatMap opC19)) (hok : ∀ o ∈ l, Op19Ok w o) (hl : l.length ≤ 9223372036854775807) :
  Calls Tryz.prog 6 #[.slice A l.length cap] w fun e w' => ∃ b : Bool, e = .returned (.int .i64 (if b then 1 else 0)) ∧ Below w.heap.size w w' ∧ (b = true → l.length ≤ 40 ∧ ∀ o ∈ l, Few19 o) := by
 have HS := Lib.hid hs
 have HOK := Lib.hid hok
 clear hs hok
 have hll : (l.length : Int) ≤ 9223372036854775807 := by omega
 go_enter Tryz.func6, Tryz.ntmps6
 go_wp2_with fail
 go_loopw [3] (fun i wr => ∃ k : Nat, k ≤ l.length ∧ i = .int .i64 (k : Int) ∧ Hid (∀ o ∈ l.take k, Few19 o) ∧ wr = w) (fun i _ => l.length - (intOf i).toNat)
 case atStart => exact ⟨0, Nat.zero_le _, rfl, jz (fun o ho => by simp at ho), rfl⟩
 case round =>
  obtain ⟨k, hk, rfl, HF, hw⟩ := hrel
  rw [hw]
  clear hw
  rcases Nat.lt_or_ge k l.length with hlt | hge
  ·obtain ⟨b, off, hA, hr⟩ := op_at19 HS.out (fun o ho => opC19_length o (HOK.out o ho)) k hlt
   subst hA
   have ho := HOK.out _ (List.getElem_mem hlt)
   have HN : Hid (Few19 l[k] → ∀ o ∈ l.take (k + 1), Few19 o) := jz (fun h o ho => by
    rw [List.take_succ_eq_append_getElem hlt] at ho
    rcases List.mem_append.1 ho with ho | ho
    ·exact HF.out o ho
    ·rw [List.mem_singleton.1 ho]; exact h)
   obtain ⟨o, hoe⟩ : ∃ o, o = l[k] := ⟨_, rfl⟩
   rw [← hoe] at hr ho HN
   clear hoe
   obtain ⟨Am, cm, em⟩ := ho.more.slc9
   obtain ⟨Ac, cc, ec⟩ := ho.cuts.slc9
   have hE := entP_length o.ent ho.ent
   have c1 : w.cell? ⟨b, off + k * 38 + 1, none⟩ = some (.int .i64 o.pos) := hr 1 _ rfl
   have c5 : w.cell? ⟨b, off + k * 38 + 36, none⟩ = some (.slice Am o.more.length cm) := hr 36 _ (by
    unfold opC19
    rw [List.getElem?_append_right (by simp), List.getElem?_append_right (by simp; omega), em]
    simp [hE])
   have c7 : w.cell? ⟨b, off + k * 38 + 37, none⟩ = some (.slice Ac o.cuts.length cc) := hr 37 _ (by
    unfold opC19
    rw [List.getElem?_append_right (by simp), List.getElem?_append_right (by simp; omega), ec]
    simp [hE])
   have p1 : -9223372036854775808 ≤ o.pos := ho.pos.1
   have p2 : o.pos ≤ 9223372036854775807 := ho.pos.2
   have hi0 : (0 : Int) ≤ k := by omega
   have hi1 : (k : Int) < l.length := by omega
   clear hr ho em ec
   rcases Bool.eq_false_or_eq_true (decide ((20 : Int) < (o.cuts.length : Int))) with t1 | t1
   ·go_wp2_with fail
    go_ret
    exact ⟨false, rfl, Below.refl _ _, fun h => by cases h⟩
   ·rcases Bool.eq_false_or_eq_true (decide ((20 : Int) < (o.more.length : Int))) with t2 | t2
    ·go_wp2_with fail
     go_ret
     exact ⟨false, rfl, Below.refl _ _, fun h => by cases h⟩
    ·rcases Bool.eq_false_or_eq_true (decide ((1048576 : Int) < o.pos)) with t3 | t3
     ·go_wp2_with fail
      go_ret
      exact ⟨false, rfl, Below.refl _ _, fun h => by cases h⟩
     ·rcases Bool.eq_false_or_eq_true (decide (o.pos < -1048576)) with t4 | t4
      ·go_wp2_with fail
       go_ret
       exact ⟨false, rfl, Below.refl _ _, fun h => by cases h⟩
      ·have HN2 := jz (HN.out ⟨by have := of_decide_eq_false t1; omega, by have := of_decide_eq_false t2; omega, by have := of_decide_eq_false t4; omega, by have := of_decide_eq_false t3; omega⟩)
       go_wp2_with fail
       exact ⟨⟨k + 1, by omega, by go_num, HN2, trivial⟩, by simp [intOf]; omega⟩
  ·obtain rfl : k = l.length := by omega
   rw [List.take_length] at HF
   rcases Bool.eq_false_or_eq_true (decide ((40 : Int) < (l.length : Int))) with t1 | t1
   ·go_wp2_with fail
    go_ret
    exact ⟨false, rfl, Below.refl _ _, fun h => by cases h⟩
   ·go_wp2_with fail
    go_ret
    exact ⟨true, rfl, Below.refl _ _, fun _ => ⟨by have := of_decide_eq_false t1; omega, HF.out⟩⟩
theorem getD_set (l : List (List Int)) (i j : Nat) (s : List Int) (hi : i < l.length) : (l.set i s).getD j [] = if j = i then s else l.getD j [] := by
 rw [List.getD_eq_getElem?_getD, List.getD_eq_getElem?_getD, List.getElem?_set]
 by_cases h : i = j
 ·subst h
  simp [hi]
 ·rw [if_neg h, if_neg (fun e => h e.symm)]
theorem getD_mem {l : List (List Int)} {a : Nat} (h : a < l.length) : l.getD a [] ∈ l := by
 rw [List.getD_eq_getElem?_getD, List.getElem?_eq_getElem h]
 exact List.getElem_mem h
theorem mem_getD {l : List (List Int)} {s : List Int} (h : s ∈ l) : ∃ a, a < l.length ∧ l.getD a [] = s := by
 obtain ⟨a, ha, hs⟩ := List.mem_iff_getElem.1 h
 exact ⟨a, ha, by rw [List.getD_eq_getElem?_getD, List.getElem?_eq_getElem ha]; exact hs⟩
theorem ext_getD {l m : List (List Int)} (hl : l.length = m.length) (h : ∀ a, a < m.length → l.getD a [] = m.getD a []) : l = m := by
 apply List.ext_getElem hl
 intro a h1 h2
 have := h a h2
 rw [List.getD_eq_getElem?_getD, List.getD_eq_getElem?_getD, List.getElem?_eq_getElem h1, List.getElem?_eq_getElem h2] at this
 exact this
theorem beN_four (a b c d : Int) : beN [a, b, c, d] = ((a.toNat * 256 + b.toNat) * 256 + c.toNat) * 256 + d.toNat := by
 unfold beN
 simp
theorem drop60 {s : List Int} (h : Sec s) : ∃ a b c d : Int, s.drop 60 = [a, b, c, d] ∧ tagS s = ((a.toNat * 256 + b.toNat) * 256 + c.toNat) * 256 + d.toNat ∧ 0 ≤ a ∧ 0 ≤ b ∧ 0 ≤ c := by
 have hl : (s.drop 60).length = 4 := by rw [List.length_drop, h.1]
 have hb : ∀ x ∈ s.drop 60, 0 ≤ x := fun x hx => (h.2 x (List.mem_of_mem_drop hx)).1
 unfold tagS
 match hs : s.drop 60, hl with
 | [a, b, c, d], _ =>
  rw [hs] at hb
  exact ⟨a, b, c, d, rfl, by rw [← beN_four]; rfl, hb a (by simp), hb b (by simp), hb c (by simp)⟩
theorem small_tag {s : List Int} (h : Sec s) (ht : tagS s < 256) : ∃ d : Int, s.drop 60 = [0, 0, 0, d] := by
 obtain ⟨a, b, c, d, e, et, ha, hb, hc⟩ := drop60 h
 refine ⟨d, ?_⟩
 rw [e]
 have h1 : a = 0 := by omega
 have h2 : b = 0 := by omega
 have h3 : c = 0 := by omega
 rw [h1, h2, h3]
theorem tear_tag {old new : List Int} (ho : Sec old) (hn : Sec new) (h1 : tagS old < 256) (h2 : tagS new < 256) (c : Int) : tearL old new c = new ∨ tagS (tearL old new c) = tagS old := by
 rcases Int.lt_or_le c 64 with hc | hc
 ·right
  have hk : cutN c ≤ 63 := by unfold cutN; omega
  obtain ⟨x, hx⟩ := small_tag ho h1
  obtain ⟨y, hy⟩ := small_tag hn h2
  have e : (tearL old new c).drop 60 = old.drop 60 := by
   unfold tearL
   rcases Nat.lt_or_ge 60 (cutN c) with hk2 | hk2
   ·obtain ⟨j, hj⟩ : ∃ j, cutN c = 60 + j := ⟨cutN c - 60, by omega⟩
    have hj3 : j = 1 ∨ j = 2 ∨ j = 3 := by omega
    rw [List.drop_append, List.drop_take, List.length_take, hn.1, hj, show 60 + j - 60 = j by omega, hy, show 60 - min (60 + j) 64 = 0 by omega, List.drop_zero, ← List.drop_drop, hx]
    rcases hj3 with rfl | rfl | rfl <;> rfl
   ·rw [List.drop_append, List.drop_eq_nil_of_le (by rw [List.length_take]; omega), List.nil_append, List.length_take, hn.1, Nat.min_eq_left (by omega), List.drop_drop, show cutN c + (60 - cutN c) = 60 by omega]
  unfold tagS
  rw [e]
 ·exact .inl (tearL_all c ho.1 hn.1 hc)
theorem tag_rec (g : Nat) (p : List Int) (hp : p.length ≤ 54) (hg : g < 4294967296) : tagS (rec g p) = g := by
 unfold tagS
 rw [rec_drop60 g p hp, List.take_of_length_le (by rw [beB_length]; exact Nat.le_refl _), beN_beB]
 omega
theorem tag_ent (g : Nat) {q : Ent2} (hq : EntOk q) (hg : g < 4294967296) : tagS (entRec g q) = g := tag_rec g _ (entRec_len hq) hg
theorem tag_head (g : Nat) (hg : g < 4294967296) : tagS (rec g toll) = g := tag_rec g _ (by decide) hg
def Near (sec : List (List Int)) (W : List (Int × List Int)) (sec' : List (List Int)) : Prop :=
 sec'.length = sec.length ∧ ∀ a : Nat, a < sec.length → sec'.getD a [] = sec.getD a [] ∨ ∃ s, ((a : Int), s) ∈ W ∧ (sec'.getD a [] = s ∨ tagS (sec'.getD a []) = tagS (sec.getD a []))
theorem Near.mono {sec sec' : List (List Int)} {W V : List (Int × List Int)} (h : Near sec W sec') (hs : ∀ p ∈ W, p ∈ V) : Near sec V sec' :=
 ⟨h.1, fun a ha => (h.2 a ha).imp id (fun ⟨s, h1, h2⟩ => ⟨s, hs _ h1, h2⟩)⟩
theorem Near.refl (sec : List (List Int)) (W : List (Int × List Int)) : Near sec W sec := ⟨rfl, fun _ _ => .inl rfl⟩
theorem Near.nil {sec sec' : List (List Int)} (h : Near sec [] sec') : sec' = sec :=
 ext_getD h.1 fun a ha => (h.2 a ha).elim id (fun ⟨_, h1, _⟩ => by cases h1)
theorem near_crash {sec : List (List Int)} {opn : List (Int × List Int)} (hs : ∀ s ∈ sec, Sec s) (ho : ∀ p ∈ opn, 0 ≤ p.1 ∧ p.1 < sec.length ∧ Sec p.2) (hn : (opn.map (·.1)).Nodup) (ht : ∀ s ∈ sec, tagS s < 256) (hto : ∀ p ∈ opn, tagS p.2 < 256) (cl : List Int) : Near sec opn (crashL sec opn cl) := by
 unfold crashL
 generalize (fun j => cl.getD j 0) = cut
 have hinj : ∀ i j (hi : i < opn.length) (hj : j < opn.length), opn[i].1 = opn[j].1 → i = j := fun i j hi hj e => by
  rw [List.nodup_iff_pairwise_ne, List.pairwise_map, List.pairwise_iff_getElem] at hn
  rcases Nat.lt_trichotomy i j with h | h | h
  ·exact absurd e (hn i j hi hj h)
  ·exact h
  ·exact absurd e.symm (hn j i hj hi h)
 have key : ∀ j, j ≤ opn.length → ∀ a : Nat, a < sec.length → ((∀ i (hi : i < opn.length), i < j → opn[i].1 ≠ a) → (tornN cut sec opn j).getD a [] = sec.getD a []) ∧ (∀ i (hi : i < opn.length), i < j → opn[i].1 = a → (tornN cut sec opn j).getD a [] = opn[i].2 ∨ tagS ((tornN cut sec opn j).getD a []) = tagS (sec.getD a [])) := by
  intro j
  induction j with
  | zero => exact fun _ a _ => ⟨fun _ => rfl, fun i _ h => by omega⟩
  | succ j ih =>
   intro hj a ha
   have hlt : j < opn.length := by omega
   have hp := ho _ (List.getElem_mem hlt)
   have hk : opn[j].1.toNat < (tornN cut sec opn j).length := by rw [tornN_len]; omega
   have hgd : opn.getD j (0, []) = opn[j] := by simp [hlt]
   rw [tornN, hgd, getD_set _ _ _ _ hk]
   obtain ⟨i1, i2⟩ := ih (by omega) a ha
   by_cases hak : a = opn[j].1.toNat
   ·rw [if_pos hak]
    have hka : opn[j].1 = a := by omega
    refine ⟨fun hno => absurd hka (hno j hlt (by omega)), fun i hi hij he => ?_⟩
    have hij2 : i = j := hinj i j hi hlt (he.trans hka.symm)
    subst hij2
    have hold := i1 (fun i' hi' hlt' he' => by have := hinj i' i hi' hi (he'.trans hka.symm); omega)
    rw [← hak, hold]
    exact tear_tag (hs _ (getD_mem ha)) hp.2.2 (ht _ (getD_mem ha)) (hto _ (List.getElem_mem hlt)) _
   ·rw [if_neg hak]
    refine ⟨fun hno => i1 (fun i hi hij => hno i hi (by omega)), fun i hi hij he => i2 i hi ?_ he⟩
    rcases Nat.lt_or_ge i j with h | h
    ·exact h
    ·have : i = j := by omega
     subst this
     omega
 refine ⟨tornN_len _ _ _ _, fun a ha => ?_⟩
 obtain ⟨k1, k2⟩ := key opn.length (Nat.le_refl _) a ha
 by_cases hex : ∃ i, ∃ hi : i < opn.length, opn[i].1 = a
 ·obtain ⟨i, hi, he⟩ := hex
  exact .inr ⟨opn[i].2, by rw [← he]; exact List.getElem_mem hi, k2 i hi hi he⟩
 ·exact .inl (k1 (fun i hi _ he => hex ⟨i, hi, he⟩))
theorem Near.tags {sec sec' : List (List Int)} {W : List (Int × List Int)} {K : Nat} (h : Near sec W sec') (ht : ∀ s ∈ sec, tagS s ≤ K) (hw : ∀ p ∈ W, tagS p.2 ≤ K) : ∀ s ∈ sec', tagS s ≤ K := by
 intro s hs
 obtain ⟨a, ha, rfl⟩ := mem_getD hs
 rw [h.1] at ha
 rcases h.2 a ha with e | ⟨t, h1, e | e⟩
 ·rw [e]; exact ht _ (getD_mem ha)
 ·rw [e]; exact hw _ h1
 ·rw [e]; exact ht _ (getD_mem ha)
structure Live (sec : List (List Int)) (h s g : Nat) (es : List Ent2) : Prop where
 s2 : s < 2
 ln : h + h ≤ sec.length
 fit : es.length + 1 ≤ h
 g4 : g < 4294967296
 hd : sec.getD (sFrom h s) [] = rec g toll
 en : ∀ i (hi : i < es.length), sec.getD (sFrom h s + 1 + i) [] = entRec g es[i]
 eo : ∀ q ∈ es, EntOk q ∧ rightE q = true
 nx : ∀ i, es.length ≤ i → i + 1 < h → tagS (sec.getD (sFrom h s + 1 + i) []) ≠ g
 ot : tagS (sec.getD (sFrom h (1 - s)) []) < g
theorem sFrom_le (h s : Nat) (hs : s < 2) : sFrom h s = s * h := by
 unfold sFrom
 have : s = 0 ∨ s = 1 := by omega
 rcases this with rfl | rfl <;> simp
theorem drop_getD (sec : List (List Int)) (f h i : Nat) (hi : i < h) (_ : f + h ≤ sec.length) : ((sec.drop f).take h).getD i [] = sec.getD (f + i) [] := by
 rw [List.getD_eq_getElem?_getD, List.getD_eq_getElem?_getD, List.getElem?_take_of_lt hi, List.getElem?_drop]
theorem scan_live {sec : List (List Int)} {h s g : Nat} {es : List Ent2} (l : Live sec h s g es) : scanL (none, []) ((sec.drop (sFrom h s)).take h) = (some g, es) := by
  obtain ⟨f, hf⟩ : ∃ f, f = sFrom h s := ⟨_, rfl⟩
  have hfl : f + h ≤ sec.length := by
    have := l.ln; have := l.s2
    rw [hf]; unfold sFrom; split <;> omega
  have h1 := l.fit
  have hL : ((sec.drop f).take h).length = h := by rw [List.length_take, List.length_drop]; omega
  obtain ⟨R, hR⟩ : ∃ R, R = ((sec.drop f).take h).drop (es.length + 1) := ⟨_, rfl⟩
  have hRl : R.length = h - (es.length + 1) := by rw [hR, List.length_drop, hL]
  have e : (sec.drop f).take h = rec g toll :: (es.map (entRec g) ++ R) := by
    apply ext_getD
    · rw [hL, List.length_cons, List.length_append, List.length_map, hRl]; omega
    · intro a ha
      have ha2 : a < h := by rw [List.length_cons, List.length_append, List.length_map, hRl] at ha; omega
      rw [drop_getD _ _ _ _ ha2 hfl]
      match a with
      | 0 => rw [Nat.add_zero, hf, l.hd]; rfl
      | a + 1 =>
        show _ = (es.map (entRec g) ++ R).getD a []
        rcases Nat.lt_or_ge a es.length with hlt | hge
        · have h2 := l.en a hlt
          rw [← hf] at h2
          rw [show f + (a + 1) = f + 1 + a by omega, h2, List.getD_eq_getElem?_getD, List.getElem?_append_left (by rw [List.length_map]; exact hlt)]
          simp [hlt]
        · rw [List.getD_eq_getElem?_getD (l := es.map (entRec g) ++ R), List.getElem?_append_right (by rw [List.length_map]; exact hge), List.length_map, hR, List.getElem?_drop, ← List.getD_eq_getElem?_getD, show es.length + 1 + (a - es.length) = a + 1 by omega, drop_getD _ _ _ _ ha2 hfl]
  rw [← hf, e, scan_head g l.g4, scan_ents g l.g4 es [] _ l.eo, List.nil_append]
  cases hr : R with
  | nil => rfl
  | cons x R' =>
    have hx : x = sec.getD (f + 1 + es.length) [] := by
      have h2 : R.getD 0 [] = x := by rw [hr]; rfl
      have hlt : 0 < R.length := by rw [hr]; simp
      rw [← h2, hR, List.getD_eq_getElem?_getD, List.getElem?_drop, ← List.getD_eq_getElem?_getD, drop_getD _ _ _ _ (by omega) hfl]
      congr 1
      omega
    have hnx := l.nx es.length (Nat.le_refl _) (by have : 0 < R.length := by rw [hr]; simp
                                                   omega)
    refine scan_stop (fun g' e' hp he => hnx ?_)
    rw [← hf, ← hx, ← he]
    exact (prsE_gen hp).symm
theorem scan_gen {L : List (List Int)} {g : Nat} (h : (scanL (none, []) L).1 = some g) : ∃ x, L.head? = some x ∧ prsH x = some g := by
 cases L with
 | nil => simp [scanL] at h
 | cons x L =>
  rw [scanL] at h
  unfold stepS at h
  simp only at h
  cases hp : prsH x with
  | none => rw [hp] at h; simp at h
  | some g2 =>
   rw [hp] at h
   simp only [Option.map_some] at h
   have hk : ∀ (L : List (List Int)) (es : List Ent2), (scanL (some g2, es) L).1 = some g2 := fun L es => by
    obtain ⟨more, hm, _⟩ := scan_longer g2 L es
    rw [hm]
   rw [hk] at h
   exact ⟨x, rfl, hp.trans h⟩
theorem prsH_tag {s : List Int} {g : Nat} (h : prsH s = some g) : tagS s = g := by
 unfold prsH at h
 cases hp : prs s with
 | none => rw [hp] at h; cases h
 | some x =>
  obtain ⟨g', p⟩ := x
  rw [hp] at h
  simp only at h
  split at h
  ·injection h with h
   subst h
   exact (prs_gen hp).symm
  ·cases h
theorem scan_other {sec : List (List Int)} {h s g : Nat} {es : List Ent2} (l : Live sec h s g es) : ∀ g', (scanL (none, []) ((sec.drop (sFrom h (1 - s))).take h)).1 = some g' → g' < g := by
 intro g' hg
 obtain ⟨x, hx, hp⟩ := scan_gen hg
 have hfit := l.fit
 have hln := l.ln
 have hx2 : x = sec.getD (sFrom h (1 - s)) [] := by
  have hfl : sFrom h (1 - s) + h ≤ sec.length := by unfold sFrom; split <;> omega
  have := drop_getD sec (sFrom h (1 - s)) h 0 (by omega) hfl
  rw [Nat.add_zero] at this
  rw [← this, List.getD_eq_getElem?_getD, ← List.head?_eq_getElem?, hx]
  rfl
 have h1 := prsH_tag hp
 have h2 := l.ot
 rw [← hx2] at h2
 omega
theorem openF_live {d : DiskD} {s g : Nat} {es : List Ent2} (l : Live d.sec (d.sec.length / 2) s g es) : openF d = (some es, ⟨s, lastN d d.sec.length, g, es.length, false⟩) := by
 have h1 := scan_live l
 have h2 := scan_other l
 unfold openF
 generalize d.sec.length / 2 = h at *
 have hs := l.s2
 have hs2 : s = 0 ∨ s = 1 := by omega
 rcases hs2 with rfl | rfl
 ·have e1 : fAt d h ⟨0, lastN d d.sec.length, 0, 0, false⟩ 1 = (some es, ⟨0, lastN d d.sec.length, g, es.length, false⟩) := by
   show fNext 0 (slotS d (sFrom h 0) h) (none, _) = _
   have e : slotS d (sFrom h 0) h = (some g, es) := h1
   rw [fNext_new (g := g) (by rw [e]) (.inl rfl), e]
  show fNext 1 (slotS d (sFrom h 1) h) (fAt d h _ 1) = _
  rw [e1]
  cases hg : (slotS d (sFrom h 1) h).1 with
  | none => exact fNext_none hg
  | some g' => exact fNext_old hg rfl (Nat.le_of_lt (h2 g' hg))
 ·have e1 : (fAt d h ⟨0, lastN d d.sec.length, 0, 0, false⟩ 1).1 = none ∨ (fAt d h ⟨0, lastN d d.sec.length, 0, 0, false⟩ 1).2.gen < g := by
   show (fNext 0 (slotS d (sFrom h 0) h) (none, _)).1 = none ∨ (fNext 0 (slotS d (sFrom h 0) h) (none, _)).2.gen < g
   cases hg : (slotS d (sFrom h 0) h).1 with
   | none => rw [fNext_none hg]; exact .inl rfl
   | some g' => rw [fNext_new hg (.inl rfl)]; exact .inr (h2 g' hg)
  have e2 : (fAt d h ⟨0, lastN d d.sec.length, 0, 0, false⟩ 1).2.last = lastN d d.sec.length ∧ (fAt d h ⟨0, lastN d d.sec.length, 0, 0, false⟩ 1).2.brk = false := by
   show (fNext 0 (slotS d (sFrom h 0) h) (none, _)).2.last = _ ∧ (fNext 0 (slotS d (sFrom h 0) h) (none, _)).2.brk = _
   cases hg : (slotS d (sFrom h 0) h).1 with
   | none => rw [fNext_none hg]; exact ⟨rfl, rfl⟩
   | some g' => rw [fNext_new hg (.inl rfl)]; exact ⟨rfl, rfl⟩
  show fNext 1 (slotS d (sFrom h 1) h) (fAt d h _ 1) = _
  have e : slotS d (sFrom h 1) h = (some g, es) := h1
  rw [fNext_new (g := g) (by rw [e]) e1, e]
  show (some es, LogD.mk 1 (fAt d h _ 1).2.last g es.length (fAt d h _ 1).2.brk) = _
  rw [e2.1, e2.2]
theorem rdS_still {d : DiskD} (hd : d.down = false) (ho : d.opn = []) (i : Nat) (hi : i < d.sec.length) : rdS d i = d.sec.getD i [] := by
 unfold rdS rdD hasB
 rw [hd, ho]
 simp
 omega
theorem lastN_ge {d : DiskD} (hd : d.down = false) (ho : d.opn = []) : ∀ k, k ≤ d.sec.length → ∀ i, i < k → tagS (d.sec.getD i []) ≤ lastN d k
 | 0, _, i, h => by omega
 | k + 1, hk, i, h => by
  unfold lastN
  rcases Nat.lt_or_ge i k with h1 | h1
  ·have := lastN_ge hd ho k (by omega) i h1
   omega
  ·have : i = k := by omega
   subst this
   rw [rdS_still hd ho i (by omega)]
   omega
theorem lastN_le {d : DiskD} (hd : d.down = false) (ho : d.opn = []) (K : Nat) (ht : ∀ s ∈ d.sec, tagS s ≤ K) : ∀ k, k ≤ d.sec.length → lastN d k ≤ K
 | 0, _ => Nat.zero_le _
 | k + 1, hk => by
  unfold lastN
  have h1 := lastN_le hd ho K ht k (by omega)
  rw [rdS_still hd ho k (by omega)]
  have h2 := ht _ (getD_mem (show k < d.sec.length by omega))
  omega
end Go.Proofs.YtillkpjflcgkeaaGreat
