/- Parts: The law ReclogFull. -/
import Derived.Test.YtillkpjflcgkeaaMA24
import Derived.Test.YtillkpjflcgkeaaMA25
namespace Go.Proofs.Ytillkpjflcgkeaa
open Go.RowKit
attribute [local irreducible] wpQuiet wpAnyH
set_option linter.unusedSimpArgs false

theorem rew_q {sec : List (List Int)} {st r h : Nat} {L : LogD} {qs : List Ent2} (hb : L.brk = false) (hs : L.side < 2) (hg : max L.last L.gen < 4294967295) (hr : ∀ q ∈ qs, rightE q = true) (hc : qs.length + 1 ≤ h) (hl : h + h ≤ sec.length) (hst : st ≤ r) :
    ∃ sec' st' r', r' ≤ r + 2 * qs.length + 10 ∧ st' ≤ r' ∧ sec'.length = sec.length ∧ rewR (qD sec [] st r) h L qs = (none, qD sec' [] st' r', { L with side := 1 - L.side, gen := max L.last L.gen + 1, cnt := qs.length }) := by
  rw [rewR_vals hb hg]
  unfold rewS
  obtain ⟨g, hgg⟩ : ∃ g, g = max L.last L.gen + 1 := ⟨_, rfl⟩
  rw [← hgg]
  have hsd := sides (h := h) (s := 1 - L.side) (by omega)
  obtain ⟨f, hf⟩ : ∃ f, f = sFrom h (1 - L.side) := ⟨_, rfl⟩
  rw [← hf] at hsd ⊢
  rcases fill_vals (qD sec [] st r) (f : Int) h g qs with ⟨h1, _⟩ | ⟨_, e⟩ | ⟨_, _, e⟩
  · rw [room_half (by omega)] at h1; omega
  · unfold fillR at e
    rw [room_half (by omega), if_neg (by omega), if_pos (List.all_eq_true.2 hr)] at e
    obtain ⟨r2, _, h2⟩ := fillW_q (qs.map (entRec g)) sec [] st r ((f : Int) + 1) (by omega) (by rw [List.length_map]; omega) hst
    rw [h2] at e
    cases e
  · obtain ⟨r2, hr2, h2⟩ := fillW_q (qs.map (entRec g)) sec [] st r ((f : Int) + 1) (by omega) (by rw [List.length_map]; omega) hst
    rw [e, h2]
    simp only
    have hl2 : (setAll sec ([] ++ wrs ((f : Int) + 1) (qs.map (entRec g)))).length = sec.length := setAll_length _ _
    obtain ⟨r3, h3, h4, h5⟩ := wsD_q (sec := setAll sec ([] ++ wrs ((f : Int) + 1) (qs.map (entRec g)))) (st := st + (qs.map (entRec g)).length + 1) (r := r2) (a := (f : Int)) (by omega) (by omega) (rec g toll)
    rw [wsA_q (by omega) (by omega), h5]
    rw [List.length_map] at hr2 h3 h4
    refine ⟨_, _, r3, ?_, ?_, ?_, rfl⟩
    · omega
    · rw [List.length_map]; omega
    · rw [List.length_set, hl2]
theorem rew_full {d : DiskD} {h : Nat} {L : LogD} {qs : List Ent2} (hb : L.brk = false) (hg : max L.last L.gen < 4294967295) (h1 : 1 ≤ h) (hc : h ≤ qs.length) : rewR d h L qs = (some (13, none), d, L) := by
  rw [rewR_vals hb hg]
  unfold rewS
  have e : fillR d (sFrom h (1 - L.side)) h (max L.last L.gen + 1) qs = (some (13, none), d) := by
    unfold fillR
    rw [room_half h1, if_pos (by omega)]
  rw [e]
  unfold rewW
  simp only
  rw [noteL_same ⟨by decide, by decide⟩]
theorem app_full {d : DiskD} {h : Nat} {L : LogD} {q : Ent2} (hb : L.brk = false) (h1 : 1 ≤ h) (hc : h ≤ L.cnt + 1) : appA d h L q = some (13, none) ∧ appD d h L q = d ∧ appL d h L q = L := by
  have e0 : ∀ {α : Type} (x y : α), (if L.brk = true then x else y) = y := fun x y => by rw [hb]; rfl
  rcases put_vals d (sFrom h L.side) h ((L.cnt + 1 : Nat) : Int) L.gen q (by omega) with ⟨_, e1, e2⟩ | ⟨h2, _⟩ | ⟨h2, _⟩
  · refine ⟨?_, ?_, ?_⟩
    · unfold appA; rw [e0, e1]
    · unfold appD; rw [e0, e2]
    · unfold appL; rw [e0, e1]; exact noteL_same ⟨by decide, by decide⟩
  · rw [room_half h1] at h2; omega
  · rw [room_half h1] at h2; omega
theorem DK.grown {w w' : World} {m : DiskM} {d : DiskD} {row : Option Nat} (h : DK w m d) (hg : w.grownBy w' row) (ha : ∀ b, row = some b → Apart m b) : DK w' m d := by
  have hk : ∀ k, k < w.heap.size → (∀ b, row = some b → k ≠ b) → w'.heap[k]? = w.heap[k]? := fun k h1 h2 => hg.block k h1 (fun e => h2 k e.symm rfl)
  have hs := hg.size
  have hf : ∀ k ∈ foot m, w'.heap[k]? = w.heap[k]? := fun k hm => hk k (h.foot_lt k hm) (fun b e he => (ha b e).1 (he ▸ hm))
  exact { blk := (hf m.g (foot_g m)).trans h.blk
          sec := own_blk h.sec fun x hx => hf x (foot_sv hx)
          opn := own_blk h.opn fun x hx => hf x (foot_ov hx)
          last := h.last.of_block (hf _ (foot_bl m))
          fl := h.fl.of_block (hf _ (foot_bf m))
          cr := h.cr.of_block (hf _ (foot_bc m))
          nd := h.nd
          flv := h.flv
          crv := fun k hi => by
            have := h.crv k hi
            cases hc : d.cr k with
            | none => rw [hc] at this; exact this
            | some cs =>
              rw [hc] at this
              obtain ⟨v, h1, h2, h3⟩ := this
              refine ⟨v, h1, ?_, fun b hb => ⟨(h3 b hb).1, Nat.lt_of_lt_of_le (h3 b hb).2 hs⟩⟩
              obtain ⟨A, cap, rfl, q1, q2, hx⟩ := h2
              refine ⟨A, cap, rfl, q1, q2, fun hp => ?_⟩
              obtain ⟨g, o, rfl, hcell⟩ := hx hp
              exact ⟨g, o, rfl, fun j u hj => (World.cell?_of_block (a := ⟨g, o + j, none⟩) (hk g (h3 g rfl).2 (fun b e he => (ha b e).2 k hi _ h1 (by rw [he]; rfl)))).trans (hcell j u hj)⟩
          ok := h.ok }
theorem Apart.nextL {w w' : World} {m m' : DiskM} {g gl : Nat} (h : Apart m g) (hg : g < w.heap.size) (ht : LT gl w m w' m') : Apart m' g :=
  ⟨fun hm => by
    rcases ht.sub g hm with hm | hm
    · exact h.1 hm
    · omega, fun k hk v hv e => by
    rcases ht.cv k v hv with h1 | h1
    · exact h.2 k hk v h1 e
    · have := h1 g e; omega⟩
/-- A log, its disk, and a row of entries of the law's own. -/
structure FI (w0 wr : World) (m : DiskM) (d : DiskD) (gl h : Nat) (L : LogD) (v : Value) (es : List Ent2) : Prop where
  st : St w0 wr m d
  lk : LK wr m d gl h L
  gl0 : w0.heap.size ≤ gl
  own : wr.ownsRow w0.heap.size 25 33 v es.length (es.flatMap entP)
  nf : ∀ b, v.ownBlock = some b → Apart m b ∧ b ≠ gl
section
variable {w0 wr wx : World} {m m' : DiskM} {d d' : DiskD} {gl h : Nat} {L L' : LogD} {v v' : Value} {es : List Ent2}
theorem FI.keep (k : FI w0 wr m d gl h L v es) (hb : Below wr.heap.size wr wx) : FI w0 wx m d gl h L v es := ⟨k.st.keep hb, k.lk.keep hb, k.gl0, own_below k.own hb, k.nf⟩
theorem FI.log (k : FI w0 wr m d gl h L v es) (hl : LK wx m' d' gl h L') (ht : LT gl wr m wx m') : FI w0 wx m' d' gl h L' v es :=
  ⟨k.st.log hl.dk ht k.gl0, hl, k.gl0, own_blk k.own (fun b e => ht.fo.block b (k.own.lt b e).2 (fun hm => by
      rcases List.mem_cons.1 hm with h1 | h1
      · exact (k.nf b e).2 h1
      · exact (k.nf b e).1.1 h1)), fun b e => ⟨(k.nf b e).1.nextL (k.own.lt b e).2 ht, (k.nf b e).2⟩⟩
theorem FI.app (k : FI w0 wr m d gl h L v es) {q : Ent2} (ho : wx.ownsRow w0.heap.size 25 33 v' (es.length + 1) (es.flatMap entP ++ entP q)) (hg : wr.grownBy wx v.ownBlock) (hb : v'.ownBlock = v.ownBlock ∨ v'.ownBlock = some wr.heap.size) : FI w0 wx m d gl h L v' (es ++ [q]) := by
  have hk : DK wx m d := k.lk.dk.grown hg (fun b e => (k.nf b e).1)
  have hbel : Below w0.heap.size w0 wx := k.st.bel.grown hg k.st.bel.size (fun b e => (k.own.lt b e).1)
  refine ⟨⟨hk, k.st.ft, hbel⟩, ⟨hk, (hg.block gl k.lk.blk.lt (fun e => (k.nf gl e.symm).2 rfl)).trans k.lk.blk, k.lk.ap, k.lk.ok⟩, k.gl0, ?_, fun b e => ?_⟩
  · rw [List.length_append, List.flatMap_append, List.flatMap_singleton]; exact ho
  · rcases hb with h1 | h1
    · exact k.nf b (h1 ▸ e)
    · rw [h1] at e
      injection e with e
      subst e
      exact ⟨Apart.fresh k.lk.dk (Nat.le_refl _), fun e => by have := k.lk.blk.lt; omega⟩
end
/-- A slice that stands beside a log and its disk. -/
structure SE (w : World) (m : DiskM) (gl s : Nat) (v : Value) (n : Nat) (xs : List Value) : Prop where
  sn : Sn w s v n xs
  nf : ∀ b, v.ownBlock = some b → Apart m b ∧ b ≠ gl ∧ b < w.heap.size
theorem SE.keep {w w' : World} {m : DiskM} {gl s n : Nat} {v : Value} {xs : List Value} (k : SE w m gl s v n xs) (hb : Below w.heap.size w w') : SE w' m gl s v n xs :=
  ⟨k.sn.below hb, fun b e => ⟨(k.nf b e).1, (k.nf b e).2.1, Nat.lt_of_lt_of_le (k.nf b e).2.2 hb.size⟩⟩
theorem SE.log {w w' : World} {m m' : DiskM} {gl s n : Nat} {v : Value} {xs : List Value} (k : SE w m gl s v n xs) (ht : LT gl w m w' m') : SE w' m' gl s v n xs :=
  ⟨ht.fo.sn k.sn (fun b e hm => (List.mem_cons.1 hm).elim (k.nf b e).2.1 (k.nf b e).1.1), fun b e => ⟨(k.nf b e).1.nextL (k.nf b e).2.2 ht, (k.nf b e).2.1, Nat.lt_of_lt_of_le (k.nf b e).2.2 ht.fo.size⟩⟩
theorem rep_take (q : Ent2) (hq : (entP q).length = 33) (R k : Nat) (h : k ≤ R) : ((List.replicate R q).flatMap entP).take (k * 33) = (List.replicate k q).flatMap entP := by
  obtain ⟨j, rfl⟩ : ∃ j, R = k + j := ⟨R - k, by omega⟩
  have hl : ((List.replicate k q).flatMap entP).length = k * 33 := by
    rw [flatMap_len entP 33 _ (fun x hx => by rw [(List.mem_replicate.1 hx).2]; exact hq), List.length_replicate]
  rw [← List.replicate_append_replicate, List.flatMap_append, ← hl, List.take_left]
structure FJ (w0 wr : World) (g9 gl hh kk j : Nat) (q : Ent2) (v : Value) : Prop where
  ex : ∃ m sec st r, FI w0 wr m (qD sec [] st r) gl hh ⟨0, 0, 1, j, false⟩ v (List.replicate j q) ∧ m.g = g9 ∧ sec.length = kk ∧ r ≤ 10 + 3 * j ∧ st ≤ r
theorem entP_all (q : Ent2) : ∀ u ∈ entP q, u.oneCell' = true := fun u hu => by
  have := entC_one q.1 q.2
  rw [Array.all_eq_true_iff_forall_mem] at this
  exact this u (by simpa [entP] using hu)
set_option maxRecDepth 100000 in
set_option maxHeartbeats 8000000 in
theorem full_any (n kp : Nat) (q : Ent2) (w : World) (hn : n ≤ 255) (hkp : kp ≤ 255) (hq : EntOk q) :
    Calls Try.prog 3 #[.int .u8 n, .agg (entP q).toArray, .int .u8 kp] w fun e w' => e = .returned (.bool true) ∧ Below w.heap.size w w' := by
  obtain ⟨wb, hwb⟩ : ∃ wb, wb = w.alloc (.cells (entP q).toArray 25) := ⟨_, rfl⟩
  obtain ⟨ge, hge⟩ : ∃ ge, ge = w.heap.size := ⟨_, rfl⟩
  have HE0 : Hid (Blk wb ge 25 (entP q).toArray) := Lib.hid (by rw [hwb, hge]; exact Blk.new _ _ _)
  have HWB : Hid (Below w.heap.size w wb) := Lib.hid (by rw [hwb]; exact bel1 _ _)
  have HQ := Lib.hid hq
  have hel := entP_length q hq
  have hqi : (Try.prog.info? 25).map (·.size) = some (entP q).length := by rw [hel]; kernel_rfl
  have hni : (n : Int) ≤ 255 := by omega
  have hkpi : (kp : Int) ≤ 255 := by omega
  go_enter Try.func3, Try.ntmps3
  go_upto_region 1 with fail
  rw [← hwb, ← hge]
  clear hwb hge hq
  go_wp2_with fail
  refine (awake19 wb).mono ?_
  rintro e w0 ⟨rfl, hb0⟩
  have HE := Lib.hid (HE0.out.keep hb0)
  have HW0 := Lib.hid (bstep HWB.out hb0)
  have hr0 := HE.out.range
  rw [List.toList_toArray] at hr0
  clear hb0 HE0 HWB
  go_wp2_with (refine ld 25 _ rfl rfl rfl hr0 Try.underlying25 rfl hqi ?_)
  refine (ref_right q w0 HQ.out).mono ?_
  rintro e w1 ⟨rfl, hb1⟩
  have HE1 := Lib.hid (HE.out.keep hb1)
  have HW1 := Lib.hid (bstep HW0.out hb1)
  clear hb1 HE HW0 hr0
  cases hrt : rightE q with
  | false =>
    go_wp2_with fail
    refine (awake19 w1).mono ?_
    rintro e w2 ⟨rfl, hb2⟩
    go_wp2_with fail
    go_ret
    exact ⟨rfl, bstep HW1.out hb2⟩
  | true =>
    have HR := Lib.hid hrt
    clear hrt
    obtain ⟨kk, hkk⟩ : ∃ kk, kk = 2 + n % 12 := ⟨_, rfl⟩
    have hk1 : 2 ≤ kk := by omega
    have hk2 : kk ≤ 13 := by omega
    have hki : (2 : Int) + (n : Int) % 12 = kk := by omega
    have HKI := Lib.hid hki
    clear hki hkk
    go_upto_region 4 with fail
    rw [HKI.out]
    obtain ⟨hh, hhh⟩ : ∃ hh, hh = kk / 2 := ⟨_, rfl⟩
    have hh1 : 1 ≤ hh := by omega
    have hh2 : hh + hh ≤ kk := by omega
    have hq2 : (kk : Int) / 2 = hh := by omega
    have HQ2 := Lib.hid hq2
    have HHH := Lib.hid hhh.symm
    clear hq2 hhh
    have HN := Lib.hid (disk_new kk w1 (by omega) (by omega))
    go_wp2_with fail
    refine HN.out.mono ?_
    rintro e w2 ⟨m2, rfl, hk2', hb2, hf2⟩
    have HS2 : Hid (St w1 w2 m2 (newD kk)) := Lib.hid ⟨hk2', hf2, hb2⟩
    obtain ⟨r1, hr1, hop⟩ := open_new kk hk1
    have HO := Lib.hid (log_open w2 m2 (newD kk) hk2' (by show 0 + 10 ≤ 100000; omega))
    rw [hop] at HO
    have hl0 : (newD kk).sec.length = kk := List.length_replicate
    rw [hl0] at HO
    clear hk2' hb2 hf2 hop hl0 HN
    go_wp2_with fail
    refine HO.out.mono ?_
    rintro e w3 ⟨pl, ve, m3, rfl, hk3, ht3, how⟩
    obtain ⟨gl, rfl, hlk, hgl, hown⟩ : ∃ gl, pl = .pointer (some ⟨gl, 0, none⟩) ∧ LK w3 m3 (qD ((List.replicate kk zsec).set 0 (rec 1 toll)) [] 3 r1) gl (kk / 2) ⟨0, 0, 1, 0, false⟩ ∧ w2.heap.size ≤ gl ∧ w3.ownsRow w2.heap.size 25 33 ve 0 [] := by
      unfold OpenW at how
      obtain ⟨gl, h1, h2, h3, h4, _⟩ := how
      exact ⟨gl, h1, h2, h3, h4⟩
    obtain ⟨A3, c3, rfl, _⟩ := Sn.own hown
    rw [HHH.out] at hlk
    have HS3 := Lib.hid (HS2.out.next hk3 ht3)
    have HJ0 : Hid (FJ w1 w3 m2.g gl hh kk 0 q (.slice none 0 0)) := Lib.hid ⟨_, _, _, _, ⟨HS3.out, hlk, Nat.le_trans HS2.out.bel.size hgl, World.ownsRow_nil _ _ _ _, fun b e => by cases e⟩, ht3.g, by rw [List.length_set, List.length_replicate], by omega, by omega⟩
    have hgl3 := hlk.blk.lt
    have hvn : valE none = .nilIface := rfl
    have hnn := eq_nilL
    have HQA := Lib.hid (entP_all q)
    obtain ⟨g9, hg9⟩ : ∃ g9, g9 = m2.g := ⟨_, rfl⟩
    rw [← hg9] at HJ0 ⊢
    have HGE : Hid (ge < w1.heap.size) := Lib.hid HE1.out.lt
    clear how hk3 ht3 hlk hown HO HS2 HS3 hg9
    rw [hvn]
    go_wp2_with fail
    go_loopw [12, 13] (fun v i wr => ∃ j : Nat, j ≤ hh - 1 ∧ i = .int .i64 (j : Int) ∧ Hid (FJ w1 wr g9 gl hh kk j q v)) (fun _ i _ => (hh - 1) - (intOf i).toNat)
    case atStart => exact ⟨0, by omega, rfl, HJ0⟩
    case round =>
      obtain ⟨j, hj, rfl, HJ⟩ := hrel
      obtain ⟨m, sec, st, r, hfi, hg, hsl, hrb, hst⟩ := HJ.out.ex
      subst hg
      have HF := Lib.hid hfi
      obtain ⟨A4, c4, rfl, _⟩ := Sn.own hfi.own
      rw [List.length_replicate] at HF ⊢
      have hrl : (List.replicate j q).length = j := List.length_replicate
      have hr1 := (HE1.out.keep hfi.st.bel).range
      rw [List.toList_toArray] at hr1
      have HR1 := Lib.hid hr1
      clear hr1 hfi HJ HJ0
      rcases Nat.lt_or_ge j (hh - 1) with hlt | hge
      · have hji : (j : Int) < (kk : Int) / 2 - 1 := by have := HQ2.out; omega
        obtain ⟨sec', r', b1, b2, b3, b4, b5, b6⟩ := app_q (sec := sec) (st := st) (r := r) (h := hh) (L := ⟨0, 0, 1, j, false⟩) (q := q) rfl HR.out (by show 0 < 2; omega) (by show j + 1 < hh; omega) (by omega)
        have HA := Lib.hid (log_append q wr m (qD sec [] st r) gl hh ⟨0, 0, 1, j, false⟩ HF.out.lk HQ.out (by show r + 3 ≤ 100000; omega))
        rw [b4, b5, b6] at HA
        clear b4 b5 b6
        go_wp2_with (refine ld 25 _ rfl rfl rfl HR1.out Try.underlying25 rfl hqi ?_)
        refine HA.out.mono ?_
        rintro e w4 ⟨rfl, m4, hlk4, ht4⟩
        have HF4 := Lib.hid (HF.out.log hlk4 ht4)
        have HG4 : Hid (m4.g = m.g) := Lib.hid ht4.g
        have HR4 : Hid (w4.rangeAt ge 0 (entP q)) := Lib.hid (by
          have h := (HE1.out.keep HF4.out.st.bel).range
          rwa [List.toList_toArray] at h)
        have hnew : Sn (w4.alloc (.cells (entP q).toArray 25)) 33 (.slice (some ⟨w4.heap.size, 0, none⟩) 1 1) 1 (entP q).toArray.toList := Sn.new w4 (entP q).toArray 25 33 1 (by simp [hel])
        rw [List.toList_toArray] at hnew
        have HNW := Lib.hid hnew
        have HOW : Hid ((w4.alloc (.cells (entP q).toArray 25)).ownsRow w1.heap.size 25 33 (.slice A4 j c4) j ((List.replicate j q).flatMap entP)) := Lib.hid (by
          have h := (HF4.out.keep (bel1 w4 (.cells (entP q).toArray 25))).own
          rwa [hrl] at h)
        have HBS : Hid (w1.heap.size ≤ w4.heap.size) := Lib.hid HF4.out.st.bel.size
        have hj4 : j ≤ 13 := by omega
        clear hlk4 ht4 HA hnew
        rw [hvn]
        go_wp2_with (first
          | (refine ld 25 _ rfl rfl rfl HR4.out Try.underlying25 rfl hqi ?_)
          | (refine lit1L tEnt _ rfl rfl (by rfl) hel (by omega) ?_)
          | (at_builtin; refine app tEnt (.tmp 57) (.tmp 59) rfl rfl (by rfl) HOW.out (by rfl) HNW.out HQA.out (by unfold maxLen; omega) (by omega) (by have := HBS.out; simp; omega) ?_; intro v5 w5 hown hgrow hblk; have HO5 := Lib.hid hown; have HG5 := Lib.hid hgrow; have HB5 := Lib.hid hblk; clear hown hgrow hblk))
        refine ⟨⟨j + 1, by omega, by go_num, Lib.hid ⟨m4, sec', st + 2, r', ?_, HG4.out, b3.trans hsl, by omega, b2⟩⟩, by simp [intOf]; omega⟩
        have hfk := HF4.out.keep (bel1 w4 (.cells (entP q).toArray 25))
        have hres := hfk.app (q := q) (v' := v5) (wx := w5) (by rw [hrl]; exact HO5.out) HG5.out HB5.out
        rw [← List.replicate_succ'] at hres
        exact hres
      · obtain rfl : j = hh - 1 := by omega
        have hji : (kk : Int) / 2 - 1 ≤ ((hh - 1 : Nat) : Int) := by have := HQ2.out; omega
        have hkq : (kk : Int) / 2 - 1 = ((hh - 1 : Nat) : Int) := by have := HQ2.out; omega
        have HKQ := Lib.hid hkq
        clear hkq
        obtain ⟨R, hR⟩ : ∃ R, R = hh - 1 := ⟨_, rfl⟩
        have HRR : Hid (R + 1 = hh) := Lib.hid (by omega)
        rw [← hR] at HF HKQ hrl hji hrb ⊢
        have hR13 : R ≤ 12 := by omega
        clear hR hge hj
        have HST := Lib.hid (disk_steps wr m (qD sec [] st r) HF.out.st.dk)
        go_wp2_with fail
        refine HST.out.mono ?_
        rintro e wq ⟨rfl, hwq⟩
        rw [hwq]
        clear hwq wq
        have hstv : ((qD sec [] st r).steps : Int) = st := rfl
        rw [hstv]
        clear hstv
        obtain ⟨a1, a2, a3⟩ := app_full (d := qD sec [] st r) (h := hh) (L := ⟨0, 0, 1, R, false⟩) (q := q) rfl hh1 (by show hh ≤ R + 1; have := HRR.out; omega)
        have HA := Lib.hid (log_append q wr m (qD sec [] st r) gl hh ⟨0, 0, 1, R, false⟩ HF.out.lk HQ.out (by show r + 3 ≤ 100000; omega))
        rw [a1, a2, a3] at HA
        have HC13 := Lib.hid (fun W => code19 (some (13, none)) W ⟨by decide, by decide⟩)
        have hc13 : codeA (some (13, none)) = 13 := rfl
        rw [hc13] at HC13
        obtain ⟨ve, hve⟩ : ∃ ve, ve = valE (some (13, none)) := ⟨_, rfl⟩
        rw [← hve] at HA HC13
        have HVE := Lib.hid hve
        clear a1 a2 a3 hc13 hve
        go_wp2_with (refine ld 25 _ rfl rfl rfl HR1.out Try.underlying25 rfl hqi ?_)
        refine HA.out.mono ?_
        rintro e w4 ⟨rfl, m4, hlk4, ht4⟩
        have HF4 := Lib.hid (HF.out.log hlk4 ht4)
        have HG4 : Hid (m4.g = m.g) := Lib.hid ht4.g
        clear hlk4 ht4 HA HR1
        go_wp2_with fail
        refine (HC13.out w4).mono ?_
        rintro e w5 ⟨rfl, hb5⟩
        have HF5 := Lib.hid (HF4.out.keep hb5)
        have HR5 : Hid (w5.rangeAt ge 0 (entP q)) := Lib.hid (by
          have h := (HE1.out.keep HF5.out.st.bel).range
          rwa [List.toList_toArray] at h)
        have hnew : Sn (w5.alloc (.cells (entP q).toArray 25)) 33 (.slice (some ⟨w5.heap.size, 0, none⟩) 1 1) 1 (entP q).toArray.toList := Sn.new w5 (entP q).toArray 25 33 1 (by simp [hel])
        rw [List.toList_toArray] at hnew
        have HNW := Lib.hid hnew
        have HF6 := Lib.hid (HF5.out.keep (bel1 w5 (.cells (entP q).toArray 25)))
        have HOW : Hid ((w5.alloc (.cells (entP q).toArray 25)).ownsRow w1.heap.size 25 33 (.slice A4 R c4) R ((List.replicate R q).flatMap entP)) := Lib.hid (by
          have h := HF6.out.own
          rwa [hrl] at h)
        have HBS : Hid (w1.heap.size ≤ w5.heap.size) := Lib.hid HF5.out.st.bel.size
        clear hb5 HF4 HF hnew
        go_wp2_with (first
          | (refine ld 25 _ rfl rfl rfl HR5.out Try.underlying25 rfl hqi ?_)
          | (refine lit1L tEnt _ rfl rfl (by rfl) hel (by omega) ?_)
          | (at_builtin; refine appK tEnt (.tmp 70) (.tmp 72) rfl rfl (by rfl) HOW.out (by rfl) HNW.out (by omega) HQA.out (by unfold maxLen; omega) (by omega) (by have := HBS.out; simp; omega) ?_; intro v7 w7 hown hgrow hblk hold; have HO7 := Lib.hid hown; have HG7 := Lib.hid hgrow; have HB7 := Lib.hid hblk; have HD7 := Lib.hid hold; clear hown hgrow hblk hold))
        have HF7 := Lib.hid (HF6.out.app (q := q) (v' := v7) (wx := w7) (by rw [hrl]; exact HO7.out) HG7.out HB7.out)
        have HSE : Hid (SE w7 m4 gl 33 (.slice A4 R c4) R ((List.replicate R q).flatMap entP)) := Lib.hid ⟨HD7.out, fun b e => ⟨(HF6.out.nf b e).1, (HF6.out.nf b e).2, Nat.lt_of_lt_of_le (HF6.out.own.lt b e).2 HG7.out.size⟩⟩
        obtain ⟨A7, c7, rfl, _⟩ := Sn.own HO7.out
        obtain ⟨qs, hqs⟩ : ∃ qs, qs = List.replicate R q ++ [q] := ⟨_, rfl⟩
        rw [← hqs] at HF7
        have hql : qs.length = R + 1 := by rw [hqs, List.length_append, List.length_replicate]; rfl
        have hqo : ∀ x ∈ qs, EntOk x := fun x hx => by
          rw [hqs] at hx
          rcases List.mem_append.1 hx with h | h
          · rw [(List.mem_replicate.1 h).2]; exact HQ.out
          · rw [List.mem_singleton.1 h]; exact HQ.out
        have hown7 := Sn.own HF7.out.own
        rw [hql] at hown7
        have HRW := Lib.hid (log_rewrite qs A7 c7 w7 m4 (qD sec [] st r) gl hh ⟨0, 0, 1, R, false⟩ HF7.out.lk (by rw [hql]; exact hown7) hqo (by omega) (by show r + 30000 ≤ 100000; omega))
        rw [hql, rew_full rfl (by show max 0 1 < 4294967295; omega) hh1 (by have := HRR.out; omega), ← HVE.out] at HRW
        clear hown7 hqo hqs HO7 HG7 HB7 HD7 HF6 HF5 HOW HNW HR5
        refine HRW.out.mono ?_
        rintro e w8 ⟨rfl, m8, hlk8, ht8⟩
        have HF8 := Lib.hid (HF7.out.log hlk8 ht8)
        have HS8 := Lib.hid (HSE.out.log ht8)
        have HG8 : Hid (m8.g = m.g) := Lib.hid (ht8.g.trans HG4.out)
        clear hlk8 ht8 HRW HF7 HSE
        go_wp2_with fail
        refine (HC13.out w8).mono ?_
        rintro e w9 ⟨rfl, hb9⟩
        have HF9 := Lib.hid (HF8.out.keep hb9)
        have HS9 := Lib.hid (HS8.out.keep hb9)
        have HST9 := Lib.hid (disk_steps w9 m8 (qD sec [] st r) HF9.out.st.dk)
        rw [HG8.out] at HST9
        clear hb9 HF8 HS8
        go_wp2_with fail
        refine HST9.out.mono ?_
        rintro e wq ⟨rfl, hwq⟩
        rw [hwq]
        clear hwq wq
        have hstv : ((qD sec [] st r).steps : Int) = st := rfl
        rw [hstv]
        clear hstv
        have HLB : Hid (Blk w9 gl 68 (logC m8.g hh ⟨0, 0, 1, R, false⟩)) := Lib.hid HF9.out.lk.blk
        go_wp2_with fail
        refine (log_broken w9 gl m8.g hh _ HLB.out).mono ?_
        rintro e wq ⟨rfl, hwq⟩
        rw [hwq]
        clear hwq wq
        go_wp2_with fail
        refine (log_room w9 gl m8.g hh _ HLB.out (by show 0 < 2; omega) (by omega)).mono ?_
        rintro e w10 ⟨rfl, hb10⟩
        have hrm : ((hh - 1 : Nat) : Int) = R := by have := HRR.out; omega
        rw [hrm]
        clear hrm
        have HF10 := Lib.hid (HF9.out.keep hb10)
        have HS10 := Lib.hid (HS9.out.keep hb10)
        clear hb10 HF9 HS9 HLB
        obtain ⟨mm, hmm⟩ : ∃ mm, mm = kp % (R + 1) := ⟨_, rfl⟩
        have hmR : mm ≤ R := by have := Nat.mod_lt kp (show 0 < R + 1 by omega); omega
        have HMM : Hid ((kp : Int) % ((R : Int) + 1) = mm) := Lib.hid (by rw [hmm]; exact (Int.natCast_emod kp (R + 1)).symm)
        have hkq := HKQ.out
        have hne0 : ((R : Int) + 1 == 0) = false := by rw [beq_eq_false_iff_ne]; omega
        clear hmm
        go_upto_region 18 with fail
        have hcap : R ≤ c4 := by
          obtain ⟨_, _, hv, hc, _⟩ := HS10.out.sn
          injection hv with _ _ hv
          omega
        have hR0 : (0 : Int) ≤ R := by omega
        go_upto_region 19 with fail
        rw [HMM.out]
        have hmRi : (mm : Int) ≤ R := by omega
        have hmci : (mm : Int) ≤ c4 := by omega
        go_wp2_with fail
        have hsm := HS10.out.sn.take mm hmR
        rw [rep_take q hel R mm hmR] at hsm
        have hml : (List.replicate mm q).length = mm := List.length_replicate
        obtain ⟨sec2, st2, r2, e1, e2, e3, e4⟩ := rew_q (sec := sec) (st := st) (r := r) (h := hh) (L := ⟨0, 0, 1, R, false⟩) (qs := List.replicate mm q) rfl (by show 0 < 2; omega) (by show max 0 1 < 4294967295; omega) (fun x hx => by rw [(List.mem_replicate.1 hx).2]; exact HR.out) (by rw [hml]; have := HRR.out; omega) (by omega) hst
        have HRW := Lib.hid (log_rewrite (List.replicate mm q) A4 c4 w10 m8 (qD sec [] st r) gl hh ⟨0, 0, 1, R, false⟩ HF10.out.lk (by rw [hml]; exact hsm) (fun x hx => by rw [(List.mem_replicate.1 hx).2]; exact HQ.out) (by omega) (by show r + 30000 ≤ 100000; omega))
        rw [e4, hml] at HRW
        rw [hml] at e1
        refine HRW.out.mono ?_
        rintro e w11 ⟨rfl, m11, hlk11, ht11⟩
        have hlk11' : LK w11 m11 (qD sec2 [] st2 r2) gl hh ⟨1, 0, 2, mm, false⟩ := hlk11
        have HF11 := Lib.hid (HF10.out.log hlk11' ht11)
        rw [hvn]
        have HLB : Hid (Blk w11 gl 68 (logC m11.g hh ⟨1, 0, 2, mm, false⟩)) := Lib.hid HF11.out.lk.blk
        have HR11 : Hid (w11.rangeAt ge 0 (entP q)) := Lib.hid (by
          have h := (HE1.out.keep HF11.out.st.bel).range
          rwa [List.toList_toArray] at h)
        have hr2 : r2 ≤ 100 := by omega
        have hs2 : sec2.length = kk := by rw [e3]; exact hsl
        clear hlk11 hlk11' ht11 HRW e1 e2 e3 e4 hsm hml HF10 HS10 hkq hne0 hcap hmci
        go_wp2_with fail
        refine (log_count w11 gl m11.g hh _ HLB.out).mono ?_
        rintro e wq ⟨rfl, hwq⟩
        rw [hwq]
        clear hwq wq
        rcases Nat.lt_or_ge mm R with hlt | hge
        · obtain ⟨sec3, r3, b1, b2, b3, b4, b5, b6⟩ := app_q (sec := sec2) (st := st2) (r := r2) (h := hh) (L := ⟨1, 0, 2, mm, false⟩) (q := q) rfl HR.out (by show 1 < 2; omega) (by show mm + 1 < hh; have := HRR.out; omega) (by omega)
          have HA := Lib.hid (log_append q w11 m11 (qD sec2 [] st2 r2) gl hh ⟨1, 0, 2, mm, false⟩ HF11.out.lk HQ.out (by show r2 + 3 ≤ 100000; omega))
          rw [b4, b5, b6] at HA
          have hlti : (mm : Int) < R := by omega
          have hrn := eq_nilT
          clear b1 b2 b3 b4 b5 b6 HLB
          go_wp2_with (refine ld 25 _ rfl rfl rfl HR11.out Try.underlying25 rfl hqi ?_)
          refine HA.out.mono ?_
          rintro e w12 ⟨rfl, m12, hlk12, ht12⟩
          have HW12 : Hid (Below w.heap.size w w12) := Lib.hid (bstep HW1.out (HF11.out.log hlk12 ht12).st.bel)
          clear hlk12 ht12 HA
          rw [hvn]
          go_wp2_with fail
          go_ret
          exact ⟨rfl, HW12.out⟩
        · have hgei : (R : Int) ≤ mm := by omega
          obtain ⟨a1, a2, a3⟩ := app_full (d := qD sec2 [] st2 r2) (h := hh) (L := ⟨1, 0, 2, mm, false⟩) (q := q) rfl hh1 (by show hh ≤ mm + 1; have := HRR.out; omega)
          have HA := Lib.hid (log_append q w11 m11 (qD sec2 [] st2 r2) gl hh ⟨1, 0, 2, mm, false⟩ HF11.out.lk HQ.out (by show r2 + 3 ≤ 100000; omega))
          rw [a1, a2, a3, ← HVE.out] at HA
          obtain ⟨tv, uv, hv⟩ := valE_form (13, none)
          have hvi : ve = .iface tv uv := HVE.out.trans hv
          rw [hvi] at HA
          have hrn : ∀ w, (binOp .eql 33 (.iface tv uv) .nilIface).run Try.prog w = .ok (.bool false) w := fun w => by kernel_rfl
          clear a1 a2 a3 HLB hvi hv
          go_wp2_with (refine ld 25 _ rfl rfl rfl HR11.out Try.underlying25 rfl hqi ?_)
          refine HA.out.mono ?_
          rintro e w12 ⟨rfl, m12, hlk12, ht12⟩
          have HW12 : Hid (Below w.heap.size w w12) := Lib.hid (bstep HW1.out (HF11.out.log hlk12 ht12).st.bel)
          clear hlk12 ht12 HA
          go_wp2_with fail
          go_ret
          have hd : decide (mm < R) = false := by simp only [decide_eq_false_iff_not]; omega
          exact ⟨by rw [hd]; rfl, HW12.out⟩
end Go.Proofs.Ytillkpjflcgkeaa
