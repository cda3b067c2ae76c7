/- Parts: slot.Fill: the walk. -/
import Derived.Test.YtombncedfleljaaGreatMK18
namespace Go.Proofs.YtombncedfleljaaGreat
open Go.RowKit
attribute [local irreducible] wpQuiet wpAnyH
set_option linter.unusedSimpArgs false

set_option maxRecDepth 100000 in
set_option maxHeartbeats 4000000 in
theorem slot_fill (f z : Int) (g : Nat) (l : List (List Int × Int)) (A : Option Addr) (cap : Nat) (w : World) (m : DiskM) (d : DiskD) (h : DK w m d) (hs : Sn w 33 (.slice A l.length cap) l.length (l.flatMap entP)) (hok : ∀ q ∈ l, EntOk q) (hf : 0 ≤ f ∧ f ≤ 100000) (hz : isI64 z ∧ z ≤ 4000) (hg : g < 4294967296) (hln : l.length ≤ 1000000) (hr : d.room + 10000 ≤ 100000) :
    Calls Tryz.prog 57 #[.pointer (some ⟨m.g, 0, none⟩), .agg #[.int .i64 f, .int .i64 z], .int .u32 g, .slice A l.length cap] w fun e w' => e = .returned (valE (fillR d f z g l).1) ∧ ∃ m', DK w' m' (fillR d f z g l).2 ∧ DT w m w' m' := by
  have hB0 : Below w.heap.size w (w.alloc (.cells #[.int .i64 f, .int .i64 z] 106)) := (Below.refl _ w).alloc (Nat.le_refl _) _
  obtain ⟨w1, hw1⟩ : ∃ w1, w1 = w.alloc (.cells #[.int .i64 f, .int .i64 z] 106) := ⟨_, rfl⟩
  have HK1 : Hid (DK w1 m d) := Lib.hid (by rw [hw1]; exact h.keep hB0)
  have HB1 : Hid (Below w.heap.size w w1) := Lib.hid (by rw [hw1]; exact hB0)
  have HS1 : Hid (Sn w1 33 (.slice A l.length cap) l.length (l.flatMap entP)) := Lib.hid (by rw [hw1]; exact hs.alloc _)
  have HX1 : Hid (Blk w1 w.heap.size 106 #[.int .i64 f, .int .i64 z]) := Lib.hid (by rw [hw1]; exact Blk.new w _ _)
  have HR1 : Hid (w1.rangeAt w.heap.size 0 [.int .i64 f, .int .i64 z]) := Lib.hid (by have := HX1.out.range; exact this)
  have HNF := Lib.hid (h.notFoot (Nat.le_refl w.heap.size))
  have HOK := Lib.hid hok
  have hst := h.ok.st
  have hf1 : 0 ≤ f := hf.1
  have hf2 : f ≤ 100000 := hf.2
  have hrz : room z ≤ 4000 := by unfold room; split <;> omega
  have hln0 : (0 : Int) ≤ l.length := by omega
  have hln1 : (l.length : Int) ≤ 1000000 := by omega
  clear h hB0 hf hs hok
  go_enter Tryz.func57, Tryz.ntmps57
  go_upto_region 1 with fail
  rw [← hw1]
  clear hw1
  go_wp2_with (refine ld 106 _ rfl rfl rfl HR1.out Tryz.underlying106 rfl (by kernel_rfl) ?_)
  refine (slot_room f z w1 hz.1).mono ?_
  rintro e w2 ⟨rfl, hb2⟩
  have HB2 : Hid (Below w.heap.size w w2) := Lib.hid (bstep HB1.out hb2)
  have HX2 : Hid (Blk w2 w.heap.size 106 #[.int .i64 f, .int .i64 z]) := Lib.hid (HX1.out.keep hb2)
  have HS2 := Lib.hid (HS1.out.below hb2)
  have HK2 := Lib.hid (HK1.out.keep hb2)
  obtain ⟨R, hR⟩ : ∃ R, R = room z := ⟨_, rfl⟩
  have HRR := Lib.hid hR
  rw [← hR] at hrz ⊢
  clear hb2 hR
  rcases Bool.eq_false_or_eq_true (decide (R < (l.length : Int))) with t2 | t2
  · have HF : Hid (fillR d f z g l = (some (13, none), d)) := Lib.hid (by unfold fillR; rw [← HRR.out, if_pos (of_decide_eq_true t2)])
    go_wp2_with fail
    go_ret
    exact ⟨by rw [HF.out]; rfl, m, by rw [HF.out]; exact HK2.out, DT.of_below HB2.out⟩
  · have hlR : (l.length : Int) ≤ R := by have := of_decide_eq_false t2; omega
    have hms : ∀ w, (Instr.makeSlice 53 (.int .i64 l.length) (.int .i64 l.length)).run Tryz.prog w = .ok (.slice (some ⟨w.heap.size, 0, none⟩) l.length l.length) (w.alloc (.cells ((List.replicate l.length zsec).flatMap u8s).toArray 144)) := make_secs l.length (by omega)
    have HF0 : Hid (fillR d f z g l = (if l.all rightE then fillW d (f + 1) (l.map (entRec g)) else (some (15, none), d))) := Lib.hid (by unfold fillR; rw [← HRR.out, if_neg (of_decide_eq_false t2)])
    clear HRR
    go_upto_region 4 with fail
    obtain ⟨gR, hgR⟩ : ∃ gR, gR = w2.heap.size := ⟨_, rfl⟩
    obtain ⟨w3, hw3⟩ : ∃ w3, w3 = w2.alloc (.cells ((List.replicate l.length zsec).flatMap u8s).toArray 144) := ⟨_, rfl⟩
    have HB3 : Hid (Below gR w2 w3) := Lib.hid (by rw [hw3, hgR]; exact (Below.refl _ _).alloc (Nat.le_refl _) _)
    have HR3 : Hid (Blk w3 gR 144 (recsAt g l 0).toArray) := Lib.hid (by rw [hw3, hgR, recsAt_zero]; exact Blk.new _ _ _)
    have HGR := Lib.hid hgR
    have hgw : w.heap.size ≤ gR := by rw [hgR]; exact HB2.out.size
    rw [← hw3, ← hgR]
    clear hw3 hgR hms
    go_wp2_with fail
    go_loopw [28] (fun i wr => ∃ k : Nat, k ≤ l.length ∧ i = .int .i64 k ∧ Hid ((l.take k).all rightE = true) ∧ Hid (Blk wr gR 144 (recsAt g l k).toArray) ∧ Hid (Below gR w2 wr)) (fun i _ => l.length - (intOf i).toNat)
    case atStart => exact ⟨0, Nat.zero_le _, rfl, Lib.hid (by simp), HR3, HB3⟩
    case round =>
      obtain ⟨k, hk, rfl, HA, HRB, HBR⟩ := hrel
      have HBW : Hid (Below w2.heap.size w2 wr) := Lib.hid (by rw [← HGR.out]; exact HBR.out)
      rcases Nat.lt_or_ge k l.length with hlt | hge
      · obtain ⟨b, off, eA, hr⟩ := ent_row HS2.out HOK.out k hlt
        subst eA
        obtain ⟨q, hq⟩ : ∃ q, q = l[k] := ⟨_, rfl⟩
        obtain ⟨pre, post, hp1, hp2, hp3⟩ := recs_split g l HOK.out k hlt
        rw [← hq] at hr hp2
        have hqo : EntOk q := by rw [hq]; exact HOK.out _ (List.getElem_mem hlt)
        have HRW : Hid (wr.rangeAt b (off + k * 33) (entP q)) := Lib.hid (fun i u hi => Below.cell' HBW.out (hr i u hi))
        have HQE : Hid ((Tryz.prog.info? 35).map (·.size) = some (entP q).length ∧ (Tryz.prog.info? 35).map (·.size) = some (entP q).toArray.size ∧ zE.size = (entP q).toArray.size) := Lib.hid ⟨by rw [entP_length q hqo]; kernel_rfl, by rw [List.size_toArray, entP_length q hqo]; kernel_rfl, by rw [zE_size, List.size_toArray, entP_length q hqo]⟩
        have HQ1 : Hid ((entP q).toArray.all (·.oneCell') = true) := Lib.hid (entC_one _ _)
        have HSP := Lib.hid (pick_sec g hqo)
        have hi0 : (0 : Int) ≤ k := by omega
        have hi1 : (k : Int) < l.length := by omega
        have HNX : Hid (l.all rightE = true → rightE q = true) := Lib.hid (fun e => List.all_eq_true.1 e q (by rw [hq]; exact List.getElem_mem hlt))
        have HNT : Hid (rightE q = true → (l.take (k + 1)).all rightE = true) := Lib.hid (fun e => by
          rw [List.take_succ_eq_append_getElem hlt, List.all_append, HA.out, ← hq]
          simp [e])
        have HP := Lib.hid (And.intro hp1 (And.intro hp2 hp3))
        have HSW := Lib.hid (HBR.out.size)
        clear hr hq hp1 hp2 hp3
        go_wp2_with (first
          | (refine ld 35 _ rfl rfl rfl HRW.out Tryz.underlying35 rfl HQE.out.1 ?_)
          | (refine al 35 zE rfl rfl zeroE ?_)
          | (refine stNew 35 (.tmp 11) (.tmp 32) rfl rfl rfl rfl HQE.out.2.1 HQE.out.2.2 HQ1.out ?_; intro w4 hK hb4 hz4; have HB4 := Lib.hid hb4; have HR4 : Hid (w4.rangeAt wr.heap.size 0 (entP q)) := Lib.hid (by have := Blk.range (show Blk w4 wr.heap.size 35 (entP q).toArray from hK); rw [List.toList_toArray] at this; exact this); clear hK hb4 hz4)
          | (refine ld 35 _ rfl rfl rfl HR4.out Tryz.underlying35 rfl HQE.out.1 ?_))
        refine (frame_entry g q w4 hqo hg).mono ?_
        rintro e w5 ⟨rfl, hb5⟩
        have HB5 : Hid (Below wr.heap.size wr w5) := Lib.hid (bstep HB4.out hb5)
        obtain ⟨S, hS⟩ : ∃ S, S = (if rightE q then entRec g q else zsec) := ⟨_, rfl⟩
        rw [← hS] at HSP ⊢
        have HSZ : Hid ((Tryz.prog.info? 144).map (·.size) = some (u8s S).toArray.size ∧ z64.size = (u8s S).toArray.size ∧ (Tryz.prog.info? 144).map (·.size) = some (u8s S).length ∧ (u8s zsec).length = (u8s S).length) := Lib.hid ⟨by rw [List.size_toArray, sec_length HSP.out]; kernel_rfl, by rw [z64_size, List.size_toArray, sec_length HSP.out], by rw [sec_length HSP.out]; kernel_rfl, by rw [sec_length HSP.out, sec_length zsec_sec]⟩
        have HSO := Lib.hid (u8s_one S)
        have HRB5 : Hid (Blk w5 gR 144 (recsAt g l k).toArray) := Lib.hid (HRB.out.keep HB5.out)
        have HGL := Lib.hid HRB.out.lt
        clear hb5
        cases hrq : rightE q with
        | false =>
          have HF : Hid (fillR d f z g l = (some (15, none), d)) := Lib.hid (by
            rw [HF0.out, if_neg]
            intro e
            rw [HNX.out e] at hrq
            cases hrq)
          clear hrq hS HF0
          go_wp2_with (first
            | (refine al 144 z64 rfl rfl zero64 ?_)
            | (refine stNew 144 (.tmp 12) (.tmp 37) rfl rfl rfl rfl HSZ.out.1 HSZ.out.2.1 HSO.out ?_; intro w6 hK hb6 hz6; have HB6 := Lib.hid hb6; clear hK hb6 hz6))
          go_ret
          have hbl : Below w2.heap.size w2 w6 := bstep (bstep HBW.out HB5.out) HB6.out
          exact ⟨by rw [HF.out]; rfl, m, by rw [HF.out]; exact HK2.out.keep hbl, DT.of_below (bstep HB2.out hbl)⟩
        | true =>
          rw [hrq] at hS
          replace hS : S = entRec g q := hS
          have HT := Lib.hid (HNT.out hrq)
          rw [← hS] at HP
          clear hrq hS
          have HPL : Hid (Operand.tmp 45 = Operand.tmp 45) := Lib.hid rfl
          go_wp2_with (first
            | (refine al 144 z64 rfl rfl zero64 ?_)
            | (refine stNew 144 (.tmp 12) (.tmp 37) rfl rfl rfl rfl HSZ.out.1 HSZ.out.2.1 HSO.out ?_; intro w6 hK hb6 hz6; have HB6 := Lib.hid hb6; have HR6 : Hid (w6.rangeAt w5.heap.size 0 (u8s S)) := Lib.hid (by have := Blk.range (show Blk w6 w5.heap.size 144 (u8s S).toArray from hK); rw [List.toList_toArray] at this; exact this); have HRB6 : Hid (Blk w6 gR 144 (pre ++ u8s zsec ++ post).toArray) := Lib.hid (by rw [← HP.out.1]; exact HRB5.out.keep hb6); clear hK hb6 hz6)
            | (refine ld 144 _ rfl rfl rfl HR6.out Tryz.underlying144 rfl HSZ.out.2.2.1 ?_)
            | (refine stPartM 144 (.tmp 45) (.tmp 44) rfl rfl pre (u8s zsec) post (u8s S) (by rw [HP.out.2.2]; rfl) rfl HRB6.out HSZ.out.2.2.1 HSZ.out.2.2.2 (u8s_mem _) ?_; intro w7 hK7 ho7 hz7; have HRB7 := Lib.hid hK7; have HO7 := Lib.hid ho7; clear hK7 ho7 hz7))
          have hb60 : Below gR w2 w6 := (HBR.out.trans ((HB5.out.mono (Nat.le_of_lt HGL.out)).trans (HB6.out.mono (by have := HB5.out.size; have := HGL.out; omega))))
          exact ⟨⟨k + 1, by omega, by go_num, HT, Lib.hid (by rw [HP.out.2.1]; exact HRB7.out), Lib.hid (hb60.trans (HO7.out.below (Nat.le_refl _) (by have := hb60.size; have := HGR.out; omega)))⟩, by simp [intOf]; omega⟩
      · obtain rfl : k = l.length := by omega
        have hall : l.all rightE = true := by have := HA.out; rwa [List.take_length] at this
        have HF : Hid (fillR d f z g l = fillW d (f + 1) (l.map (entRec g))) := Lib.hid (by rw [HF0.out, if_pos hall])
        obtain ⟨L, hL⟩ : ∃ L, L = l.map (entRec g) := ⟨_, rfl⟩
        have hLn : L.length = l.length := by rw [hL, List.length_map]
        have HLS : Hid (∀ s ∈ L, Sec s) := Lib.hid (fun s hs => by rw [hL] at hs; obtain ⟨q, hq, rfl⟩ := List.mem_map.1 hs; exact entRec_sec g (HOK.out q hq))
        rw [recsAt_all, ← hL] at HRB
        rw [← hL] at HF
        have HKr : Hid (DK wr m d) := Lib.hid (HK2.out.keep HBW.out)
        have HXr : Hid (Blk wr w.heap.size 106 #[.int .i64 f, .int .i64 z]) := Lib.hid (HX2.out.keep HBW.out)
        have HTr : Hid (DT w m wr m) := Lib.hid (DT.of_below (bstep HB2.out HBW.out))
        have HNG : Hid (gR ∉ foot m) := Lib.hid (fun hm => by have := HK2.out.foot_lt gR hm; have := HGR.out; omega)
        clear hall HF0 HA hL
        have HR0 : Hid ((fillR d f z g l) = fillW d (f + 1 + ((0 : Nat) : Int)) (L.drop 0)) := Lib.hid (by rw [HF.out]; simp)
        have hlx : (L.length : Int) ≤ 4000 := by rw [hLn]; omega
        have hll : l.length = L.length := hLn.symm
        rw [hll]
        clear HF hll hLn
        go_wp2_with fail
        go_loopw [49] (fun i wx => ∃ (k : Nat) (mk : DiskM) (dk : DiskD), k ≤ L.length ∧ i = .int .i64 k ∧ mk.g = m.g ∧ dk.room ≤ d.room + 2 * k ∧ Hid (DK wx mk dk) ∧ Hid (DT w m wx mk) ∧ Hid (fillR d f z g l = fillW dk (f + 1 + k) (L.drop k)) ∧ Hid (Blk wx gR 144 (L.flatMap u8s).toArray ∧ Blk wx w.heap.size 106 #[.int .i64 f, .int .i64 z] ∧ gR ∉ foot mk ∧ w.heap.size ∉ foot mk)) (fun i _ => L.length - (intOf i).toNat)
        case atStart => exact ⟨0, m, d, Nat.zero_le _, rfl, rfl, by omega, HKr, HTr, HR0, Lib.hid ⟨HRB.out, HXr.out, HNG.out, HNF.out⟩⟩
        case round =>
          clear HR0 HKr HTr HRB HXr HNG
          obtain ⟨k, mk, dk, hk, rfl, hgk, hrk, HKk, HTk, HFk, HBk⟩ := hrel
          have hsk := HKk.out.ok.st
          rcases Nat.lt_or_ge k L.length with hlt | hge
          · obtain ⟨S, hS⟩ : ∃ S, S = L[k] := ⟨_, rfl⟩
            have HSS : Hid (Sec S) := Lib.hid (by rw [hS]; exact HLS.out _ (List.getElem_mem hlt))
            have HRS : Hid (wr.rangeAt gR (k * 64) (u8s S)) := Lib.hid (by
              have hB := HBk.out.1
              intro i u hi
              rw [hB.cell]
              have hsl : (u8s S).length = 64 := sec_length HSS.out
              have h1 := flatMap_pieceM u8s 64 L (fun s hs => sec_length (HLS.out s hs)) k hlt
              rw [← hS] at h1
              rw [← h1, List.getElem?_take] at hi
              split at hi
              · rw [List.getElem?_drop] at hi
                simpa using hi
              · cases hi)
            have HSZ : Hid ((Tryz.prog.info? 144).map (·.size) = some (u8s S).toArray.size ∧ z64.size = (u8s S).toArray.size ∧ (Tryz.prog.info? 144).map (·.size) = some (u8s S).length) := Lib.hid ⟨by rw [List.size_toArray, sec_length HSS.out]; kernel_rfl, by rw [z64_size, List.size_toArray, sec_length HSS.out], by rw [sec_length HSS.out]; kernel_rfl⟩
            have HSO := Lib.hid (u8s_one S)
            have HFS : Hid (fillR d f z g l = match writeA dk (f + 1 + k) with | some x => (some x, writeD dk (f + 1 + k) S) | none => fillW (writeD dk (f + 1 + k) S) (f + 1 + k + 1) (L.drop (k + 1))) := Lib.hid (by rw [HFk.out, fillW_cons dk _ L k hlt, hS]; rfl)
            have hi0 : (0 : Int) ≤ k := by omega
            have hi1 : (k : Int) < L.length := by omega
            have HCB : Hid (∀ w4, Below wr.heap.size wr w4 → w4.cell? ⟨w.heap.size, 0, none⟩ = some (.int .i64 f)) := Lib.hid (fun w4 hb => (HBk.out.2.1.keep hb).cell 0)
            clear hS HFk
            go_wp2_with (first
              | (refine ld 144 _ rfl rfl rfl HRS.out Tryz.underlying144 rfl HSZ.out.2.2 ?_)
              | (refine al 144 z64 rfl rfl zero64 ?_)
              | (refine stNew 144 (.tmp 15) (.tmp 53) rfl rfl rfl rfl HSZ.out.1 HSZ.out.2.1 HSO.out ?_; intro w4 hK hb4 hz4; have HB4 := Lib.hid hb4; have HR4 : Hid (w4.rangeAt wr.heap.size 0 (u8s S)) := Lib.hid (by have := Blk.range (show Blk w4 wr.heap.size 144 (u8s S).toArray from hK); rw [List.toList_toArray] at this; exact this); have hc4 := HCB.out w4 hb4; clear hK hb4 hz4)
              | (refine ld 144 _ rfl rfl rfl HR4.out Tryz.underlying144 rfl HSZ.out.2.2 ?_))
            have HK4 := Lib.hid (HKk.out.keep HB4.out)
            rw [← hgk]
            refine (disk_write (f + 1 + k) S w4 mk dk HK4.out ⟨by omega, by omega⟩ HSS.out (by omega)).mono ?_
            rintro e w5 ⟨rfl, m5, hdk, hdt⟩
            rw [writeE_val]
            have HDT : Hid (DT w m w5 m5) := Lib.hid (HTk.out.trans ((DT.of_below HB4.out).trans hdt))
            have HDK := Lib.hid hdk
            have hrm := writeD_room hsk (f + 1 + k) S
            have HB5 : Hid (Blk w5 gR 144 (L.flatMap u8s).toArray ∧ Blk w5 w.heap.size 106 #[.int .i64 f, .int .i64 z] ∧ gR ∉ foot m5 ∧ w.heap.size ∉ foot m5) := Lib.hid (by
              have hl1 : gR < w4.heap.size := (HBk.out.1.keep HB4.out).lt
              have hl2 : w.heap.size < w4.heap.size := (HBk.out.2.1.keep HB4.out).lt
              exact ⟨(hdt.off hl1 HBk.out.2.2.1).trans (HBk.out.1.keep HB4.out), (hdt.off hl2 HBk.out.2.2.2).trans (HBk.out.2.1.keep HB4.out), fun hm => (hdt.sub _ hm).elim HBk.out.2.2.1 (fun h => by omega), fun hm => (hdt.sub _ hm).elim HBk.out.2.2.2 (fun h => by omega)⟩)
            clear hdk hdt hc4
            have hg5 : m5.g = m.g := HDT.out.g
            cases ha : writeA dk (f + 1 + k) with
            | some x =>
              have HF : Hid (fillR d f z g l = (some x, writeD dk (f + 1 + k) S)) := Lib.hid (by rw [HFS.out, ha])
              obtain ⟨t, u, hv⟩ := valE_form x
              rw [hv]
              have HV := Lib.hid hv
              have hne := neq_nil t u
              clear ha hv HFS
              go_wp2_with fail
              go_ret
              exact ⟨by rw [HF.out, HV.out]; rfl, m5, by rw [HF.out]; exact HDK.out, HDT.out⟩
            | none =>
              have HF : Hid (fillR d f z g l = fillW (writeD dk (f + 1 + k) S) (f + 1 + k + 1) (L.drop (k + 1))) := Lib.hid (by rw [HFS.out, ha])
              have hv : valE none = .nilIface := rfl
              rw [hv]
              clear ha HFS
              go_wp2_with fail
              exact ⟨⟨k + 1, m5, _, by omega, by go_num, hg5, by omega, HDK, HDT, Lib.hid (by rw [HF.out]; congr 1; omega), HB5⟩, by simp [intOf]; omega⟩
          · obtain rfl : k = L.length := by omega
            have HF : Hid (fillR d f z g l = (syncA dk, syncS dk)) := Lib.hid (by rw [HFk.out, List.drop_eq_nil_of_le (Nat.le_refl _)]; rfl)
            clear HFk
            go_wp2_with fail
            rw [← hgk]
            refine (disk_sync wr mk dk HKk.out (by omega)).mono ?_
            rintro e w6 ⟨rfl, m6, hdk4, hdt4⟩
            have HD4 := Lib.hid hdk4
            have HT4 : Hid (DT w m w6 m6) := Lib.hid (HTk.out.trans hdt4)
            clear hdk4 hdt4
            go_wp2_with fail
            go_ret
            exact ⟨by rw [HF.out]; show _ = Ending.returned (valE (syncA dk)); rw [← syncE_val]; rfl, m6, by rw [HF.out]; exact HD4.out, HT4.out⟩
end Go.Proofs.YtombncedfleljaaGreat
