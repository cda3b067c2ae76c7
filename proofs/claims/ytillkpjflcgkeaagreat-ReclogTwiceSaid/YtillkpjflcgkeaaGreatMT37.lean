import Derived.Test.YtillkpjflcgkeaaGreatMT36
import Derived.Test.YtillkpjflcgkeaaGreatMT35
import Derived.Test.YtillkpjflcgkeaaGreatMT11
set_option linter.unusedSimpArgs false
set_option maxRecDepth 100000
namespace Go.Proofs.YtillkpjflcgkeaaGreat
open Go.RowKit
attribute [local irreducible] wpQuiet wpAnyH
def e15 : Ent2 := numE 1 5
theorem e15_ok : EntOk e15 := numE_ok 1 5 ⟨by decide, by decide⟩
theorem e15_right : rightE e15 = true := by
 unfold rightE e15 numE
 decide
theorem open_new (n : Nat) (hn : 2 ≤ n) : ∃ r', (3 ≤ r' ∧ r' ≤ 6) ∧ openR (newD n) = (none, qD ((List.replicate n zsec).set 0 (rec 1 toll)) [] 3 r', some (⟨0, 0, 1, 0, false⟩, [])) := by
 obtain ⟨r', hr1, hr2, hw⟩ := wsD_q (sec := List.replicate n zsec) (st := 1) (r := 1) (a := 0) (by decide) (by simp; omega) (rec 1 toll)
 refine ⟨r', ⟨by omega, by omega⟩, ?_⟩
 have hf := fresh_new n hn
 have hlen : (newD n).sec.length = n := List.length_replicate
 unfold openR
 rw [if_neg (by omega), newD_q, syncA_q, syncS_q]
 show openS (qD (List.replicate n zsec) [] 1 1) = _
 have hl2 : (qD (List.replicate n zsec) [] 1 1).sec.length = n := List.length_replicate
 have hof : (openF (qD (List.replicate n zsec) [] 1 1)).1 = none := openF_none (fun s hs => by rw [hl2]; exact hf.scan s hs)
 have hla : lastN (qD (List.replicate n zsec) [] 1 1) (qD (List.replicate n zsec) [] 1 1).sec.length = 0 := by
  have := lastN_le (d := qD (List.replicate n zsec) [] 1 1) rfl rfl 0 hf.tag _ (Nat.le_refl _)
  omega
 unfold openS
 rw [hof, hla]
 simp only [show ¬ ((0 : Nat) = 4294967295) by omega, if_false, Nat.zero_add]
 rw [wsA_q (by decide) (by simp; omega), hw]
 rfl
theorem sa_new (n : Nat) (hn : 2 ≤ n) : SA (fun _ _ => True) n 1 (openR (newD n)).2.1 ⟨0, 0, 1, 0, false⟩ [] := by
 obtain ⟨r', _, e⟩ := open_new n hn
 rw [e]
 have hf := fresh_new n hn
 have hpos : 0 < (List.replicate n zsec).length := by simp; omega
 have hl : (List.replicate n zsec).length = n := List.length_replicate
 refine ⟨rfl, rfl, by show ((List.replicate n zsec).set 0 _).length = n; rw [List.length_set, hl], ?_, rfl, trivial, fun s hs => ?_, Nat.le_refl _⟩
 ·exact live_first hf (List.length_set ..) (by show ((List.replicate n zsec).set 0 (rec 1 toll)).getD 0 [] = _; rw [getD_set _ _ _ _ hpos, if_pos rfl]) (fun a h1 _ => by show ((List.replicate n zsec).set 0 (rec 1 toll)).getD a [] = _; rw [getD_set _ _ _ _ hpos, if_neg (by omega)])
 ·show tagS s ≤ max 0 1
  rcases List.mem_or_eq_of_mem_set hs with h1 | h1
  ·have := hf.tag s h1; omega
  ·rw [h1, tag_head 1 (by omega)]; omega
theorem app_q {sec : List (List Int)} {st r h : Nat} {L : LogD} {q : Ent2} (hb : L.brk = false) (hr : rightE q = true) (hs : L.side < 2) (hc : L.cnt + 1 < h) (hl : h + h ≤ sec.length) :
  ∃ sec' r', r' ≤ max r (st + 2) + 1 ∧ st + 2 ≤ r' ∧ sec'.length = sec.length ∧ appA (qD sec [] st r) h L q = none ∧ appD (qD sec [] st r) h L q = qD sec' [] (st + 2) r' ∧ appL (qD sec [] st r) h L q = { L with cnt := L.cnt + 1 } := by
 have hsd := sides (h := h) hs
 have e0 : ∀ {α : Type} (x y : α), (if L.brk = true then x else y) = y := fun x y => by rw [hb]; rfl
 rcases put_vals (qD sec [] st r) (sFrom h L.side) h ((L.cnt + 1 : Nat) : Int) L.gen q (by omega) with ⟨h1, _⟩ | ⟨_, h1, _⟩ | ⟨_, _, e1, e2⟩
 ·rw [room_half (by omega)] at h1; omega
 ·rw [hr] at h1; cases h1
 ·obtain ⟨p, hp⟩ : ∃ p : Nat, (sFrom h L.side : Int) + ((L.cnt + 1 : Nat) : Int) = (p : Int) := ⟨sFrom h L.side + (L.cnt + 1), by omega⟩
  have hpl : (p : Int) < sec.length := by omega
  rw [hp] at e1 e2
  obtain ⟨r', h1, h2, hw⟩ := wsD_q (sec := sec) (st := st) (r := r) (a := (p : Int)) (by omega) hpl (entRec L.gen q)
  rw [wsA_q (by omega) hpl] at e1
  rw [hw] at e2
  refine ⟨sec.set (p : Int).toNat (entRec L.gen q), r', h2, h1, ?_, ?_, ?_, ?_⟩
  ·exact List.length_set ..
  ·unfold appA; rw [e0, e1]
  ·unfold appD; rw [e0, e2]
  ·unfold appL; rw [e0, e1]; rfl
theorem open_calm {d : DiskD} {s g : Nat} {es : List Ent2} (hn : 2 ≤ d.sec.length) (hs : syncA d = none) (hl : Live (syncS d).sec ((syncS d).sec.length / 2) s g es) : openR d = (none, syncS d, some (⟨s, lastN (syncS d) (syncS d).sec.length, g, es.length, false⟩, es)) := by
 unfold openR
 rw [if_neg (by omega), hs]
 exact openS_some (openF_live hl)
theorem awake19_vals : ∃ (d1 d2 d3 : DiskD) (la : Nat), openR (newD 8) = (none, d1, some (⟨0, 0, 1, 0, false⟩, [])) ∧ d1.room ≤ 10 ∧ appA d1 4 ⟨0, 0, 1, 0, false⟩ e15 = none ∧ appD d1 4 ⟨0, 0, 1, 0, false⟩ e15 = d2 ∧ appL d1 4 ⟨0, 0, 1, 0, false⟩ e15 = ⟨0, 0, 1, 1, false⟩ ∧ d2.room ≤ 20 ∧ d1.sec.length = 8 ∧ d2.sec.length = 8 ∧ openR d2 = (none, d3, some (⟨0, la, 1, 1, false⟩, [e15])) := by
 obtain ⟨r1, hr1, h1⟩ := open_new 8 (by omega)
 have hsa := sa_new 8 (by omega)
 rw [h1] at hsa
 obtain ⟨sec2, r2, b1, b2, b3, b4, b5, b6⟩ := app_q (sec := (List.replicate 8 zsec).set 0 (rec 1 toll)) (st := 3) (r := r1) (h := 4) (L := ⟨0, 0, 1, 0, false⟩) (q := e15) rfl e15_right (by show 0 < 2; omega) (by show 0 + 1 < 4; omega) (by rw [List.length_set, List.length_replicate]; omega)
 have hl8 : ((List.replicate 8 zsec).set 0 (rec 1 toll)).length = 8 := by rw [List.length_set, List.length_replicate]
 have hk : DOk (qD ((List.replicate 8 zsec).set 0 (rec 1 toll)) [] 3 r1) := by
  refine ⟨fun s hs => ?_, fun p hp => (by cases hp), by show ((List.replicate 8 zsec).set 0 (rec 1 toll)).length ≤ 4096; omega, Nat.zero_le _, by show 3 ≤ r1; omega, by show r1 ≤ 100000; omega, fun k cs h => by cases h⟩
  rcases List.mem_or_eq_of_mem_set hs with h1 | h1
  ·rw [(List.mem_replicate.1 h1).2]; exact zsec_sec
  ·rw [h1]; exact rec_sec 1
 rcases sa_append (P' := fun _ _ => True) hsa hk (by omega) e15_ok trivial trivial with ⟨_, k2, _⟩ | ⟨x, k1, _⟩ | ⟨x, k1, _⟩
 ·rw [show (8 / 2 : Nat) = 4 from rfl, b5, b6] at k2
  have hlv := k2.lv
  have hop := open_calm (d := qD sec2 [] 5 r2) (s := 0) (g := 1) (es := [e15]) (by show 2 ≤ sec2.length; omega) (syncA_q _ _ _ _) (by
   rw [syncS_q]
   show Live sec2 (sec2.length / 2) 0 1 [e15]
   rw [b3, hl8]
   exact hlv)
  exact ⟨_, _, _, _, h1, by show r1 ≤ 10; omega, b4, b5, b6, by show r2 ≤ 20; omega, hl8, b3.trans hl8, hop⟩
 ·rw [show (8 / 2 : Nat) = 4 from rfl, b4] at k1; cases k1
 ·rw [show (8 / 2 : Nat) = 4 from rfl, b4] at k1; cases k1
theorem lit1L {P : Program} {ops : Array Oper} {rest : List Oper} {o : Oper} {a : Act} {w : World} {Q : Exit → Act → World → Prop} {t e s bytes : Nat} (T : SlT P t e s bytes) (x : Operand) (ho : o.op = .buildSlice t 1 #[(0, x)]) (hw : Region.wanted o (yielded ops a.tmps) = true)
  {cs : List Value} (hx : a.eval x = .agg cs.toArray) (hl : cs.length = s) (hs1 : s ≤ 1000)
  (h : wpList P ops Q rest (a.put o.dst (.slice (some ⟨w.heap.size, 0, none⟩) 1 1)) (w.alloc (.cells cs.toArray e))) : wpList P ops Q (o :: rest) a w :=
 wpList_step fun K hK => by
  rw [if_pos hw]
  unfold Oper.wp
  have hrun : (execOp a.eval o).run P w = .ok (.value (.slice (some ⟨w.heap.size, 0, none⟩) 1 1)) (w.alloc (.cells cs.toArray e)) := by
   have hrun := run_lit1M T cs hl hs1 w
   unfold execOp
   simp only [ho, Sem.run_bind, List.map_toArray, List.map_cons, List.map_nil, hx, hrun, Result.andThen_ok]
   rfl
  rw [hrun, Oper.upon_value]
  exact hK _ _ h
theorem St.log {w0 w w' : World} {m m' : DiskM} {d d' : DiskD} {gl : Nat} (h : St w0 w m d) (hk : DK w' m' d') (ht : LT gl w m w' m') (hg : w0.heap.size ≤ gl) : St w0 w' m' d' :=
 ⟨hk, ht.le h.ft h.bel.size, h.bel.trans (ht.below h.ft hg h.bel.size)⟩
theorem eq_nilT : ∀ w, (binOp .eql 53 .nilIface .nilIface).run Tryz.prog w = .ok (.bool true) w := fun w => by kernel_rfl
set_option maxHeartbeats 4000000 in
theorem awake19 (w : World) : Calls Tryz.prog 5 #[] w fun e w' => e = .returned (.bool true) ∧ Below w.heap.size w w' := by
 obtain ⟨d1, d2, d3, la, v1, v2, v3, v4, v5, v6, v7, v8, v9⟩ := awake19_vals
 have V1 := Lib.hid v1
 have V3 := Lib.hid v3
 have V4 := Lib.hid v4
 have V5 := Lib.hid v5
 have V9 := Lib.hid v9
 have V7 := Lib.hid v7
 clear v1 v3 v4 v5 v7 v9
 have hn1 : 0 < 8 := by omega
 go_enter Tryz.func5, Tryz.ntmps5
 go_wp2_with fail
 refine (disk_new 8 w (by omega) (by omega)).mono ?_
 rintro e w1 ⟨m1, rfl, hk1, hb1, hf1⟩
 have HS1 : Hid (St w w1 m1 (newD 8)) := Lib.hid ⟨hk1, hf1, hb1⟩
 have HO := jz (log_open w1 m1 (newD 8) hk1 (by show 0 + 10 ≤ 100000; omega))
 rw [V1.out] at HO
 have hl0 : (newD 8).sec.length = 8 := List.length_replicate
 rw [hl0] at HO
 clear hk1 hb1 hf1 hl0
 go_wp2_with fail
 refine HO.out.mono ?_
 rintro e w2 ⟨pl, ve, m2, rfl, hk2, ht2, how⟩
 obtain ⟨gl, rfl, hlk, hgl, hown, _⟩ : ∃ gl, pl = .pointer (some ⟨gl, 0, none⟩) ∧ LK w2 m2 d1 gl 4 ⟨0, 0, 1, 0, false⟩ ∧ w1.heap.size ≤ gl ∧ w2.ownsRow w1.heap.size 43 33 ve 0 [] ∧ True := by
  unfold OpenW at how
  obtain ⟨gl, h1, h2, h3, h4, _⟩ := how
  exact ⟨gl, h1, h2, h3, h4, trivial⟩
 obtain ⟨A2, c2, rfl, _⟩ := Sn.own hown
 have HS2 := jz (HS1.out.next hk2 ht2)
 have HLK := Lib.hid hlk
 have HG2 : Hid (m2.g = m1.g) := Lib.hid ht2.g
 clear how hk2 ht2 hlk hown HO
 have hvn : valE none = .nilIface := rfl
 rw [hvn]
 have hrn := eq_nilT
 have HEL := entP_length e15 e15_ok
 have HNU := jz (fun W => number17 1 5 W (by omega) ⟨by decide, by decide⟩)
 have hg2 : gl < w2.heap.size := HLK.out.blk.lt
 go_wp2_with fail
 refine (HNU.out w2).mono ?_
 rintro e w3 ⟨rfl, hb3⟩
 have HS3 := jz (HS2.out.keep hb3)
 have HLK3 := jz (HLK.out.keep hb3)
 have HA := jz (log_append e15 w3 m2 d1 gl 4 ⟨0, 0, 1, 0, false⟩ HLK3.out e15_ok (by omega))
 rw [V3.out, V4.out, V5.out] at HA
 have hb13 := hb3
 clear hb3
 go_wp2_with fail
 refine HA.out.mono ?_
 rintro e w4 ⟨rfl, m4, hlk4, ht4⟩
 rw [hvn]
 have HS4 := jz (HS3.out.log hlk4.dk ht4 (Nat.le_trans HS1.out.bel.size hgl))
 have HLK4 := Lib.hid hlk4
 have HO := jz (log_open w4 m4 d2 HS4.out.dk (by omega))
 rw [V9.out, v8] at HO
 have HG4 : Hid (m4.g = m1.g) := jz (ht4.g.trans HG2.out)
 rw [HG4.out] at HO
 clear hlk4 ht4 HA hb13
 go_wp2_with fail
 refine HO.out.mono ?_
 rintro e w5 ⟨pl, ve, m5, rfl, hk5, ht5, how⟩
 obtain ⟨gl2, rfl, hlk5, _, hown5, hok5⟩ : ∃ gl2, pl = .pointer (some ⟨gl2, 0, none⟩) ∧ LK w5 m5 d3 gl2 4 ⟨0, la, 1, 1, false⟩ ∧ w4.heap.size ≤ gl2 ∧ w5.ownsRow w4.heap.size 43 33 ve [e15].length ([e15].flatMap entP) ∧ ∀ q ∈ [e15], EntOk q := by
  unfold OpenW at how
  obtain ⟨gl2, h1, h2, h3, h4, h5, _⟩ := how
  exact ⟨gl2, h1, h2, h3, h4, h5⟩
 obtain ⟨A5, c5, rfl, _⟩ := Sn.own hown5
 have HB1 : Hid (Blk w5 gl 88 (logC m4.g 4 ⟨0, 0, 1, 1, false⟩)) := jz ((ht5.off HLK4.out.blk.lt HLK4.out.ap.1).trans HLK4.out.blk)
 have HB2 : Hid (Blk w5 gl2 88 (logC m5.g 4 ⟨0, la, 1, 1, false⟩)) := Lib.hid hlk5.blk
 have HS5 := jz (HS4.out.next hk5 ht5)
 have HE5 := jz (Sn.own hown5)
 have HOK := Lib.hid hok5
 clear how hk5 ht5 hlk5 hown5 hok5 HO
 rw [hvn]
 have hl1 : [e15].length = 1 := rfl
 rw [hl1] at HE5 ⊢
 go_wp2_with fail
 refine (log_generation w5 gl m4.g 4 _ HB1.out).mono ?_
 rintro e wq ⟨rfl, hwq⟩
 rw [hwq]
 clear hwq wq
 go_wp2_with fail
 refine (log_room w5 gl m4.g 4 _ HB1.out (by show 0 < 2; omega) (by omega)).mono ?_
 rintro e w6 ⟨rfl, hb6⟩
 rw [show (((4 - 1 : Nat) : Nat) : Int) = 3 from rfl]
 have HB16 := jz (HB1.out.keep hb6)
 have HB26 := jz (HB2.out.keep hb6)
 have HE6 := jz (HE5.out.below hb6)
 have HW6 : Hid (Below w.heap.size w w6) := jz (bstep HS5.out.bel hb6)
 clear hb6
 go_wp2_with fail
 refine (log_count w6 gl m4.g 4 _ HB16.out).mono ?_
 rintro e wq ⟨rfl, hwq⟩
 rw [hwq]
 clear hwq wq
 go_wp2_with fail
 refine (log_count w6 gl2 m5.g 4 _ HB26.out).mono ?_
 rintro e wq ⟨rfl, hwq⟩
 rw [hwq]
 clear hwq wq
 go_wp2_with fail
 refine (HNU.out w6).mono ?_
 rintro e w7 ⟨rfl, hb7⟩
 have HB17 := jz (HB16.out.keep hb7)
 have HE7 := jz (HE6.out.below hb7)
 have HW7 := jz (bstep HW6.out hb7)
 clear hb7
 go_wp2_with (refine lit1L tEnt _ rfl rfl (by rfl) HEL (by omega) ?_)
 have hnew : Sn (w7.alloc (.cells (entP e15).toArray 43)) 33 (.slice (some ⟨w7.heap.size, 0, none⟩) 1 1) [e15].length ([e15].flatMap entP) := by
  have := Sn.new w7 (entP e15).toArray 43 33 1 (by simp [HEL])
  rw [List.flatMap_singleton]
  exact this
 refine (same_any _ _ [e15] [e15] _ (HE7.out.alloc _) HOK.out hnew HOK.out (by simp) (by simp)).mono ?_
 rintro e w8 ⟨rfl, hb8⟩
 have HB18 := jz ((HB17.out.alloc _).keep hb8)
 have HW8 := jz (bstep (bstep HW7.out (bel1 _ _)) hb8)
 simp only [decide_true]
 clear hb8 hnew
 go_wp2_with fail
 refine (log_broken w8 gl m4.g 4 _ HB18.out).mono ?_
 rintro e wq ⟨rfl, hwq⟩
 rw [hwq]
 clear hwq wq
 go_wp2_with fail
 refine (log_broken_nil w8).mono ?_
 rintro e wq ⟨rfl, hwq⟩
 rw [hwq]
 clear hwq wq
 go_wp2_with fail
 refine (log_rewrite_nil _ w8).mono ?_
 rintro e wq ⟨rfl, hwq⟩
 rw [hwq]
 clear hwq wq
 have HC := jz (code19 (some (12, none)) w8 ⟨by decide, by decide⟩)
 go_wp2_with fail
 refine HC.out.mono ?_
 rintro e w9 ⟨rfl, hb9⟩
 have HW9 := jz (bstep HW8.out hb9)
 have hcv : codeA (some (12, none)) = 12 := rfl
 rw [hcv]
 clear hb9 hcv HC
 go_wp2_with fail
 go_ret
 exact ⟨rfl, HW9.out⟩
end Go.Proofs.YtillkpjflcgkeaaGreat
